/- Contracts; no condition but each theorem's own. -/
import Derived.Test.YtnmoajaelmimnaaGreatDoorSlY12
set_option linter.unusedVariables false
set_option linter.unusedSimpArgs false
set_option maxHeartbeats 8000000
set_option maxRecDepth 100000
namespace Go.Proofs.YtnmoajaelmimnaaGreatDoor
open Go.Proofs.Tryz
section
open Go.ChangeShapes Go.WideShapes Go.RowKit Go.Deep
theorem zjx(n:Nat)(hn:0 < n):∀(rs:List (List Value)) (j:Nat) (u),(∀c∈rs,c.length=n)→rs.flatten[j]? = some u→∃(i k:Nat) (cs:List Value),rs[i]? = some cs∧k < n∧j=i * n+k∧cs[k]? = some u
 | [],j,u,_,h=>by simp at h
 | r :: rs,j,u,hl,h=>by
  have hr:=hl r (by simp);rw[Ua] at h;rcases Yc j n with hj|hj
  ·rw[Xu (by omega)] at h;exact⟨0,j,r,rfl,hj,by omega,h⟩
  ·rw[Xq (by omega),hr] at h;obtain⟨i,k,cs,h1,h2,h3,h4⟩:=zjx n hn rs (j - n) u (fun c hc=>hl c (by simp[hc])) h;exact⟨i+1,k,cs,by simpa using h1,h2,by rw[Vl];omega,h4⟩
section
variable {H:Type} {enc:TypeId×Value→H} {w:World}
end
end
section
open Go.RowKit
theorem z9m(n:Int)(w):Calls prog 29 #[.int .i64 n] w fun e w'=>e=.returned (.bool (z30 n))∧w=w':=by
 by_cases h1:0≤n
 ·by_cases h2:n≤1000000
  ·rw[show z30 n=true from by unfold z30;rw[Xi h1,Xi h2];rfl];go_enter func29,ntmps29;go_wp2;go_ret;exact⟨rfl,rfl⟩
  ·rw[show z30 n=false from by unfold z30;rw[Xl h2,Bool.and_false]];have h3:decide (n≤1000000)=false:=Xl h2;go_enter func29,ntmps29;go_wp2;go_ret;exact⟨rfl,rfl⟩
 ·rw[show z30 n=false from by unfold z30;rw[Xl h1,Uz]];have h3:decide (0≤n)=false:=Xl h1;go_enter func29,ntmps29;go_wp2;go_ret;exact⟨rfl,rfl⟩
theorem zhn(t n:Int)(w):Calls prog 254 #[.int .i64 t,.int .i64 n] w fun e w'=>e=.returned (.bool (z60 t n))∧w=w':=by
 by_cases h1:t=0
 ·rw[show z60 t n=false from by unfold z60;rw[Xl (by simpa using h1),Uz]];have a:(t != 0)=false:=by simpa using h1
  clear h1;go_enter func254,ntmps254;go_wp2;go_ret;exact⟨rfl,rfl⟩
 ·have a:(t != 0)=true:=by simpa using h1
  by_cases h2:t≤n
  ·rw[show z60 t n=true from by unfold z60;rw[Xi h1,Xi h2];rfl];clear h1;go_enter func254,ntmps254;go_wp2;go_ret;exact⟨rfl,rfl⟩
  ·rw[show z60 t n=false from by unfold z60;rw[Xl h2,Bool.and_false]];have h3:decide (t≤n)=false:=Xl h2;clear h1 h2;go_enter func254,ntmps254;go_wp2;go_ret;exact⟨rfl,rfl⟩
theorem seven{w:World}{g t:Nat}{a b c d e f h:Value}(hw:Whole w g t [a,b,c,d,e,f,h]):
  w.cell? ⟨g,0,none⟩=some a∧w.cell? ⟨g,1,none⟩=some b∧w.cell? ⟨g,2,none⟩=some c∧w.cell? ⟨g,3,none⟩=some d∧w.cell? ⟨g,4,none⟩=some e∧w.cell? ⟨g,5,none⟩=some f∧w.cell? ⟨g,6,none⟩=some h:=
 ⟨hw.cell 0,hw.cell 1,hw.cell 2,hw.cell 3,hw.cell 4,hw.cell 5,hw.cell 6⟩
theorem zbi{w:World}{g t:Nat}{a b c d e f h:Value}(hw:Whole w g t [a,b,c,d,e,f,h]):
  w.frozen? ⟨g,0,none⟩=false∧w.frozen? ⟨g,1,none⟩=false∧w.frozen? ⟨g,2,none⟩=false∧w.frozen? ⟨g,3,none⟩=false∧w.frozen? ⟨g,4,none⟩=false∧w.frozen? ⟨g,5,none⟩=false∧w.frozen? ⟨g,6,none⟩=false:=
 ⟨hw.frozen 0,hw.frozen 1,hw.frozen 2,hw.frozen 3,hw.frozen 4,hw.frozen 5,hw.frozen 6⟩
theorem zju(k s)(b c d e f g)(w):Calls prog 306 (#[.agg #[.string k,b,c,d,e,f,g],.string s]++#[]) w fun e w'=>e=.returned (.int .i64 (z4i k s))∧Fr [] w w':=by
 have a:=hid ((Fr.refl [] w).alloc (.cells #[.string k,b,c,d,e,f,g] 70));go_enter func306,ntmps306;go_wp2_with fail;refine(z5w k s _).mono ?_;rintro e h ⟨rfl,rfl⟩;go_wp2;go_ret;exact⟨rfl,a.o⟩
theorem q72:(∀(l) (s) (A) (c B:Nat) (w:World) (hr:rises (ltK Ent.key) l=true) (hl:l.length≤281474976710656) (hB:B≤w.heap.size) (h:z1f w B (.slice A l.length c) l),Calls prog 305 #[.slice A l.length c,.string s,.func (Fn.func 306) #[] #[]] w (z3e (z1e Ent.key l s) (z4o Ent.key l s) w))∧(∀(l:List (YY×YY)) (f v) (A) (c B:Nat) (w:World) (hr:rises (ltK Prod.fst) l=true) (hl:l.length≤281474976710656) (hB:B≤w.heap.size) (h:Sl w B 2 (.slice A l.length c) l.length (z0e l)),Calls prog 314 #[.slice A l.length c,.agg #[.string f,.string v],.func (Fn.func 150) #[] #[]] w (z3e (z1e Prod.fst l f) (z4o Prod.fst l f) w)):=by
 refine⟨?_,?_⟩;have a:=hid trivial
 rotate_left
 have a2:=hid trivial
 all_goals
  first
  | (guard_hyp a
     intro l s A c B w hr hl hB h)
  | (intro l f v A c B w hr hl hB h)
  have Y:=hid h
  first
  | (guard_hyp a
     have C:=z63 Ent.key l s;have HR:=hid hr;clear h hr;have eg:=z1b func306 (by kernel_rfl) rfl;go_enter func305,ntmps305;go_wp2;go_loopg [9,10] l.length (fun g Z N wr=>∃(y hi:Nat),g=hi - y∧Z=.int .i64 y∧N=.int .i64 hi∧y≤z1e Ent.key l s∧z1e Ent.key l s≤hi∧hi≤l.length∧Fr [] w wr)
     case atStart=>exact⟨0,l.length,rfl,rfl,rfl,Xt _,C,Xb _,Fr.refl _ _⟩)
  | (have C:=z63 Prod.fst l f
     have HR:=hid hr;have F0:=hid ((Fr.refl [] w).alloc (.cells #[.string f,.string v] 97));have B0:=hid (Whole.new w 97 [.string f,.string v]);clear h hr;go_enter func314,ntmps314;go_wp2;go_loopg [9,10] l.length (fun g Z N wr=>∃(y hi:Nat),g=hi - y∧Z=.int .i64 y∧N=.int .i64 hi∧y≤z1e Prod.fst l f∧z1e Prod.fst l f≤hi∧hi≤l.length∧Fr [] w wr∧Whole wr w.heap.size 97 [.string f,.string v])
     case atStart=>exact⟨0,l.length,rfl,rfl,rfl,Xt _,C,Xb _,F0.o,B0.o⟩)
  case round=>
   first
   | (guard_hyp a
      obtain⟨y,hi,rfl,rfl,rfl,L,J,h3,T⟩:=hrel;have t:=hid T;clear T)
   | (obtain⟨y,hi,rfl,rfl,rfl,L,J,h3,T,H⟩:=hrel
      have t:=hid T;have P:=hid H;clear T H)
   by_cases hlt:y < hi
   ·
    obtain⟨m,hm⟩:∃m,m=(y+hi) / 2:=⟨_,rfl⟩;have a0:m < l.length:=by omega
    first
    | (guard_hyp a
       obtain⟨b,off,rfl,H,hc,M,D⟩:=Y.o.at_ (by omega))
    | (obtain⟨b,off,rfl,H,hc,M,j⟩:=Y.o.at_ (by omega))
    obtain⟨q,u⟩:∃q,l[m]? = some q:=⟨_,Xa a0⟩
    first
    | (guard_hyp a
       obtain⟨A1,A2,A3,c1,c2,c3,S⟩:=D m q u;obtain⟨x0,X,V,x3,x4,x5,x6,-⟩:=S.fr t.o H hB (by simp))
    | (have X:w.cell? ⟨b,off+m * 2,none⟩=some (.string q.1):=by rw[Ya];exact j _ _ (z0f l m q u).1
       have V:w.cell? ⟨b,off+m * 2+1,none⟩=some (.string q.2):=by rw[Ya];exact j _ _ (z0f l m q u).2
       have X1:=hid X;have X2:=hid V;have c1:=t.o.cell X (by simp);have c2:=t.o.cell V (by simp);have F:wr.cell? ⟨w.heap.size,0,none⟩=some (.string f):=P.o.cell 0;have E:wr.cell? ⟨w.heap.size,1,none⟩=some (.string v):=P.o.cell 1;have z:=hid (fun W=>zbw q (f,v) W))
    have G:((y:Int)+(hi:Int)) / 2=(m:Int):=by omega
    have hM:=hid hm
    first
    | (guard_hyp a
       have x:(z4i q.key s < 0→m < z1e Ent.key l s)∧(¬z4i q.key s < 0→z1e Ent.key l s≤m):=⟨fun h=>by
        rcases Yc m (z1e Ent.key l s) with h'|h'
        ·
         exact h'
        ·
         exact absurd h (zel Ent.key HR.o h' u),fun h=>by
        rcases Yc m (z1e Ent.key l s) with h'|h'
        ·
         exact absurd (z7s Ent.key h' u) h
        ·
         exact h'⟩
       have U:=hid x;have z:=hid (fun W b c d e f g=>zju q.key s b c d e f g W);clear D S u x hm;generalize z4i q.key s=o at *)
    | (have x:(z4i q.1 f < 0→m < z1e Prod.fst l f)∧(¬z4i q.1 f < 0→z1e Prod.fst l f≤m):=⟨fun h=>by
        rcases Yc m (z1e Prod.fst l f) with h'|h'
        ·
         exact h'
        ·
         exact absurd h (zel Prod.fst HR.o h' u),fun h=>by
        rcases Yc m (z1e Prod.fst l f) with h'|h'
        ·
         exact absurd (z7s Prod.fst h' u) h
        ·
         exact h'⟩
       rw[show((f,v):YY×YY).1=f from rfl] at z;have U:=hid x;clear X V j u x hm;generalize z4i q.1 f=o at *)
    by_cases ho:o < 0
    ·
     have R:=U.o.1 ho
     first
     | (guard_hyp a
        clear U;go_wp2_with fail;refine(z.o _ _ _ _ _ _ _).mono ?_;rintro e O ⟨rfl,r⟩;clear G)
     | (go_wp2
        clear G;go_region_held3 (fun p=>p.cell? ⟨b,off+m * 2,none⟩=some (.string q.1)∧p.cell? ⟨b,off+m * 2+1,none⟩=some (.string q.2)∧p.cell? ⟨w.heap.size,0,none⟩=some (.string f)∧p.cell? ⟨w.heap.size,1,none⟩=some (.string v)) (go_keep) (first|(go_at_call 150;(refine(z.o _).mono ?_);rintro e O ⟨rfl,r⟩;have k:=hid (z01 r);have c1:=k.o.cell c1 (by simp);have c2:=k.o.cell c2 (by simp);have F:=k.o.cell F (by simp);have E:=k.o.cell E (by simp);clear r)))
     go_wp2;go_roundg (hi - (m+1))
     case measure=>have:=hM.o;omega
     first
     | (guard_hyp a
        case rel=>exact⟨m+1,hi,rfl,by go_num,rfl,by omega,J,h3,t.o.trans r⟩)
     | (case rel=>exact⟨m+1,hi,rfl,by go_num,rfl,by omega,J,h3,t.o.trans k.o,P.o.fr k.o (by simp)⟩)
    ·
     have R:=U.o.2 ho
     first
     | (guard_hyp a
        clear U;go_wp2_with fail;refine(z.o _ _ _ _ _ _ _).mono ?_;rintro e O ⟨rfl,r⟩;clear G)
     | (go_wp2
        clear G;go_region_held3 (fun p=>p.cell? ⟨b,off+m * 2,none⟩=some (.string q.1)∧p.cell? ⟨b,off+m * 2+1,none⟩=some (.string q.2)∧p.cell? ⟨w.heap.size,0,none⟩=some (.string f)∧p.cell? ⟨w.heap.size,1,none⟩=some (.string v)) (go_keep) (first|(go_at_call 150;(refine(z.o _).mono ?_);rintro e O ⟨rfl,r⟩;have k:=hid (z01 r);have c1:=k.o.cell c1 (by simp);have c2:=k.o.cell c2 (by simp);have F:=k.o.cell F (by simp);have E:=k.o.cell E (by simp);clear r)))
     go_wp2;go_roundg (m - y)
     case measure=>have:=hM.o;omega
     first
     | (guard_hyp a
        case rel=>exact⟨y,m,rfl,rfl,rfl,L,R,by omega,t.o.trans r⟩)
     | (case rel=>exact⟨y,m,rfl,rfl,rfl,L,R,by omega,t.o.trans k.o,P.o.fr k.o (by simp)⟩)
   ·
    obtain rfl:hi=y:=by omega
    first
    | (guard_hyp a
       obtain⟨Q,n⟩:∃Q,Q=z1e Ent.key l s:=⟨_,rfl⟩)
    | (obtain⟨Q,n⟩:∃Q,Q=z1e Prod.fst l f:=⟨_,rfl⟩)
    obtain rfl:hi=Q:=by omega
    have HL:=hid n
    first
    | (guard_hyp a
       skip)
    | (have F:wr.cell? ⟨w.heap.size,0,none⟩=some (.string f):=P.o.cell 0
       have E:wr.cell? ⟨w.heap.size,1,none⟩=some (.string v):=P.o.cell 1)
    by_cases R:hi < l.length
    ·
     first
     | (guard_hyp a
        obtain⟨b,off,rfl,H,hc,M,D⟩:=Y.o.at_ (by omega))
     | (obtain⟨b,off,rfl,H,hc,M,j⟩:=Y.o.at_ (by omega))
     obtain⟨q,u⟩:∃q,l[hi]? = some q:=⟨_,Xa R⟩
     first
     | (guard_hyp a
        obtain⟨A1,A2,A3,c1,c2,c3,S⟩:=D hi q u;obtain⟨x0,X,V,x3,x4,x5,x6,-⟩:=S.fr t.o H hB (by simp);have z:=hid (fun W b c d e f g=>zju q.key s b c d e f g W);have I:=hid (show z4o Ent.key l s=decide (z4i q.key s=0) from by unfold z4o;rw[←n,u]);clear D S u n L J;generalize z4i q.key s=o at *)
     | (have c1:=t.o.cell (show w.cell? ⟨b,off+hi * 2,none⟩=some (.string q.1) by rw[Ya];exact j _ _ (z0f l hi q u).1) (by simp)
        have c2:=t.o.cell (show w.cell? ⟨b,off+hi * 2+1,none⟩=some (.string q.2) by rw[Ya];exact j _ _ (z0f l hi q u).2) (by simp);have z:=hid (fun W=>zbw q (f,v) W);rw[show((f,v):YY×YY).1=f from rfl] at z;have I:=hid (show z4o Prod.fst l f=decide (z4i q.1 f=0) from by unfold z4o;rw[←n,u]);clear j u n L J;generalize z4i q.1 f=o at *)
     by_cases ho:o=0
     ·
      subst ho;have K:=hid (I.o.trans (Xi rfl));clear I
      first
      | (guard_hyp a
         go_wp2_with fail;refine(z.o _ _ _ _ _ _ _).mono ?_;rintro e O ⟨rfl,r⟩;go_wp2;go_ret2;refine⟨?_,t.o.trans r⟩)
      | (go_wp2
         go_region_held3 (fun p=>p.cell? ⟨b,off+hi * 2,none⟩=some (.string q.1)∧p.cell? ⟨b,off+hi * 2+1,none⟩=some (.string q.2)∧p.cell? ⟨w.heap.size,0,none⟩=some (.string f)∧p.cell? ⟨w.heap.size,1,none⟩=some (.string v)) (go_keep) (first|(go_at_call 150;(refine(z.o _).mono ?_);rintro e O ⟨rfl,r⟩;have k:=hid (z01 r);have c1:=k.o.cell c1 (by simp);have c2:=k.o.cell c2 (by simp);have F:=k.o.cell F (by simp);have E:=k.o.cell E (by simp);clear r))
         go_wp2;go_ret2;refine⟨?_,t.o.trans k.o⟩)
      rw[←HL.o,K.o];rfl
     ·
      have q1:(o==0)=false:=by simpa using ho
      have K:=hid (I.o.trans (Xl ho));clear ho I
      first
      | (guard_hyp a
         go_wp2_with fail;refine(z.o _ _ _ _ _ _ _).mono ?_;rintro e O ⟨rfl,r⟩;go_wp2;go_ret2;refine⟨?_,t.o.trans r⟩)
      | (go_wp2
         go_region_held3 (fun p=>p.cell? ⟨b,off+hi * 2,none⟩=some (.string q.1)∧p.cell? ⟨b,off+hi * 2+1,none⟩=some (.string q.2)∧p.cell? ⟨w.heap.size,0,none⟩=some (.string f)∧p.cell? ⟨w.heap.size,1,none⟩=some (.string v)) (go_keep) (first|(go_at_call 150;(refine(z.o _).mono ?_);rintro e O ⟨rfl,r⟩;have k:=hid (z01 r);have c1:=k.o.cell c1 (by simp);have c2:=k.o.cell c2 (by simp);have F:=k.o.cell F (by simp);have E:=k.o.cell E (by simp);clear r))
         go_wp2;go_ret2;refine⟨?_,t.o.trans k.o⟩)
      rw[←HL.o,K.o];rfl
    ·
     first
     | (guard_hyp a
        have I:=hid (show z4o Ent.key l s=false from by unfold z4o;rw[←n,Uj (by omega)]);clear L J n;go_wp2;go_ret2;refine⟨?_,t.o⟩)
     | (have I:=hid (show z4o Prod.fst l f=false from by unfold z4o;rw[←n,Uj (by omega)])
        have a1:decide ((hi:Int) < (l.length:Int))=false:=by simpa using R
        clear n L J;go_wp2;go_quiet (fail);go_wp2;go_ret2;refine⟨?_,t.o.drewN _⟩)
     rw[←HL.o,I.o];rfl
abbrev zxy:=@And.left _ _ q72
abbrev zxz:=@And.right _ _ q72
theorem ze0(l)(s:YY)(A)(c B:Nat)(w:World)(hr:rises (ltK Ent.key) l=true)(hl:l.length≤281474976710656)(hB:B≤w.heap.size)(h:z1f w B (.slice A l.length c) l):
  Calls prog 253 #[.slice A l.length c,.string s] w (z3e (z1e Ent.key l s) (z4o Ent.key l s) w):=by
 have I:=hid (zxy l s A c B w hr hl hB h);clear h;unfold z3e at I ⊢;go_enter func253,ntmps253;go_wp2_with fail;refine I.o.mono ?_;rintro e b ⟨rfl,a⟩;go_wp2;go_ret2;exact⟨rfl,a⟩
theorem zaj:∀a b:List UInt8,Op.bytesLess a b=decide (Lib.compareBytes a b < 0)
 | [],[]=>rfl
 | [],y :: s=>rfl
 | x :: r,[]=>rfl
 | x :: r,y :: s=>by
  show(decide (x < y)||(x==y&&Op.bytesLess r s))=decide ((if x < y then -1 else if y < x then 1 else Lib.compareBytes r s) < (0:Int))
  rw[zaj r s];by_cases h1:x < y
  ·rw[Xf h1];simp[h1]
  ·rw[Xc h1];by_cases h2:y < x
   ·rw[Xf h2];have hne:¬x=y:=by rintro rfl;exact UInt8.lt_irrefl _ h2
    simp[h1,hne]
   ·rw[Xc h2]
    have e:x=y:=by
     apply UInt8.toNat_inj.1;rw[UInt8.lt_iff_toNat_lt] at h1 h2;omega
    subst e;simp[h1]
theorem zke(a b:YY):Op.bytesLess a.toList b.toList=decide (z4i a b < 0):=by
 rw[ByteArray.toList_eq,ByteArray.toList_eq,zaj];rfl
theorem zpi{a b:YY}(h:z4i a b < 0):Op.bytesLess b.toList a.toList=false∧(b.toList==a.toList)=false:=by
 have d:=z78 a b;refine⟨by rw[zke];exact Xl (by omega),?_⟩;refine neqB' ?_;rintro rfl;rw[z64] at h;exact absurd h (by decide)
def q5c(g:Nat)(lb:Array Value)(l:List Slt)(p:Slt→Bool)(w:World):Prop:=
 ∀W (e:Slt) A1 c1 A2 c2 A3 c3,e∈l→Fr [] w W→Calls prog g (#[.agg #[.string e.key,.bool e.cold,.int .i64 e.item.kind,.string e.item.text,.slice A1 e.item.list.length c1,.slice A2 e.item.pairs.length c2,.slice A3 e.item.scores.length c3,.int .i64 e.seg,.int .i64 e.rcd,.int .i64 e.til]]++lb) W fun r w'=>r=.returned (.bool (p e))∧Fr [] W w'
def q5b(g:Nat)(lb:Array Value)(l:List YX)(p:YX→Bool)(w:World):Prop:=
 ∀W (e:YX) A1 c1,e∈l→Fr [] w W→Calls prog g (#[.slice A1 e.length c1]++lb) W fun r w'=>r=.returned (.bool (p e))∧Fr [] W w'
theorem q6z:(∀(g:Nat) (lb:Array Value) (eg:∀args w,(callFunc g args).run prog w=.ok (.enter g args) w) (p:Slt→Bool) (l:List Slt) (A) (c B:Nat) (w) (hp:q5c g lb l p w) (hl:l.length≤281474976710656) (hB:B≤w.heap.size) (hsl:z6d w B (.slice A l.length c) l),Calls prog 242 #[.slice A l.length c,.func (Fn.func g) #[] lb] w fun e w'=>e=.returned (.int .i64 (z3c p l))∧Fr [] w w')∧(∀(g:Nat) (lb:Array Value) (eg:∀args w,(callFunc g args).run prog w=.ok (.enter g args) w) (p:YX→Bool) (l:List YX) (A) (c B:Nat) (w) (hp:q5b g lb l p w) (hl:l.length≤281474976710656) (hB:B≤w.heap.size) (hsl:z5g w B (.slice A l.length c) l),Calls prog 176 #[.slice A l.length c,.func (Fn.func g) #[] lb] w fun e w'=>e=.returned (.int .i64 (z3c p l))∧Fr [] w w'):=by
 refine⟨?_,?_⟩;have x:=hid trivial
 rotate_left
 have R:=hid trivial
 all_goals
  intro g lb eg p l A c B w hp hl hB hsl;have Q:=hid hsl;have M:=hid hp;clear hsl hp
  first
  | (guard_hyp x
     go_enter func242,ntmps242)
  | (go_enter func176,ntmps176)
  go_wp2;go_loopg [5,8] l.length (fun g u i wr=>∃(k:Nat),g=l.length - k∧k≤l.length∧i=.int .i64 k∧(∀j t,j < k→l[j]? = some t→p t=false)∧Fr [] w wr)
  case atStart=>exact⟨0,rfl,Xt _,rfl,fun j t K=>absurd K (Vg _),Fr.refl _ _⟩
  case round=>
   obtain⟨k,rfl,V,rfl,a,z⟩:=hrel;by_cases hlt:k < l.length
   ·
    obtain⟨b,off,rfl,P,hc,hm,f⟩:=Q.o.at_ (by omega);obtain⟨s,hs⟩:∃s,l[k]? = some s:=⟨_,Xa hlt⟩;have d:=Xj hs;have r:=hid z;have G:=hid (Fr.refl [] wr)
    first
    | (guard_hyp x
       obtain⟨y,J,I,c1,c2,H,F⟩:=f k s hs;obtain⟨C,x1,Y,T,S,Z,x6,U,x8,X,-⟩:=F.fr r.o P hB (by simp);clear F;have L:=hid (fun W (hW:Fr [] wr W)=>(show Calls prog g (#[.agg (ySa s y c1 J c2 I H)]++lb) W (fun e w'=>e=.returned (.bool (p s))∧Fr [] W w') from M.o W s y c1 J c2 I H d (r.o.trans hW))))
    | (obtain⟨y,c1,C,-⟩:=f k s hs
       have C:=r.o.cell C (by simp);have L:=hid (fun W (hW:Fr [] wr W)=>(show Calls prog g (#[.slice y s.length c1]++lb) W (fun e w'=>e=.returned (.bool (p s))∧Fr [] W w') from M.o W s y c1 d (r.o.trans hW))))
    clear f;by_cases hq:p s=true
    ·
     have E:=hid (z3i a hs hq);rw[hq] at L;clear a hs hq z d;go_wp2_with fail;refine(L.o _ G.o).mono ?_;rintro e O ⟨rfl,D⟩;go_wp2;go_ret;rw[E.o];exact⟨rfl,r.o.trans D⟩
    ·
     have m:p s=false:=by simpa using hq
     rw[m] at L
     have N:=hid (fun j t (K:j < k+1) (n:l[j]? = some t)=>(show p t=false by
      rcases Yc j k with h|h
      ·
       exact a j t h n
      ·
       have e:j=k:=by omega
       subst e;rw[hs] at n;cases n;exact m))
     clear a hs hq m z d;go_wp2_with fail;refine(L.o _ G.o).mono ?_;rintro e O ⟨rfl,D⟩;go_wp2;go_roundg (l.length - (k+1))
     case measure=>omega
     case rel=>exact⟨k+1,rfl,by omega,rfl,N.o,r.o.trans D⟩
   ·
    have E:=hid (z43 (q:=p) (l:=l) (fun j t n=>a j t (by have:=(Xe.1 n).1;omega) n));clear a;go_wp2;go_ret;rw[E.o];exact⟨rfl,z⟩
abbrev zz5:=@And.left _ _ q6z
abbrev zz4:=@And.right _ _ q6z
theorem zyi(g:Nat)(lb:Array Value)(eg:∀args w,(callFunc g args).run prog w=.ok (.enter g args) w)(p:Slt→Bool)(l:List Slt)(A)(c B:Nat)(w)(hp:q5c g lb l p w)(hl:l.length≤281474976710656)(hB:B≤w.heap.size)(hsl:z6d w B (.slice A l.length c) l):
  Calls prog 174 #[.slice A l.length c,.func (Fn.func g) #[] lb] w fun e w'=>e=.returned (.bool (l.any p))∧Fr [] w w':=by
 have I:=hid (zz5 g lb eg p l A c B w hp hl hB hsl);have h:=z61 p l;clear hsl hp;generalize z3c p l=r at *;generalize l.any p=b at *;generalize l.length=n at *;cases b;have a:=hid trivial
 all_goals
  first
  | (guard_hyp a
     have hr:r < 0:=by simpa using h)
  | (have hr:0≤r:=by simpa using h)
  clear h;go_enter func174,ntmps174;go_wp2_with fail;refine I.o.mono ?_;rintro e f ⟨rfl,d⟩;go_wp2;go_ret;exact⟨by simp <;> omega,d⟩
theorem zyh(g:Nat)(lb:Array Value)(eg:∀args w,(callFunc g args).run prog w=.ok (.enter g args) w)(p:YX→Bool)(l:List YX)(A)(c B:Nat)(w)(hp:q5b g lb l p w)(hl:l.length≤281474976710656)(hB:B≤w.heap.size)(hsl:z5g w B (.slice A l.length c) l):
  Calls prog 134 #[.slice A l.length c,.func (Fn.func g) #[] lb] w fun e w'=>e=.returned (.bool (l.any p))∧Fr [] w w':=by
 have I:=hid (zz4 g lb eg p l A c B w hp hl hB hsl);have h:=z61 p l;clear hsl hp;generalize z3c p l=r at *;generalize l.any p=b at *;generalize l.length=n at *;cases b;have a:=hid trivial
 all_goals
  first
  | (guard_hyp a
     have hr:r < 0:=by simpa using h)
  | (have hr:0≤r:=by simpa using h)
  clear h;go_enter func134,ntmps134;go_wp2_with fail;refine I.o.mono ?_;rintro e f ⟨rfl,d⟩;go_wp2;go_ret;exact⟨by simp <;> omega,d⟩
structure zfp{α:Type}(P:List Value→α→Prop)(rs:List (List Value))(l:List α):Prop where
 len:rs.length=l.length
 at_:∀(i:Nat) (e:α),l[i]? = some e→∃cs:List Value,rs[i]? = some cs∧P cs e
section
variable {α:Type} {P Q:List Value→α→Prop} {rs us:List (List Value)} {l m:List α}
theorem zfp.nil:zfp P [] []:=⟨rfl,fun i e h=>by simp at h⟩
theorem zfp.imp(h:zfp P rs l)(hi:∀cs e,P cs e→Q cs e):zfp Q rs l:=⟨h.len,fun i e he=>by
 obtain⟨cs,h1,h2⟩:=h.at_ i e he;exact⟨cs,h1,hi _ _ h2⟩⟩
theorem zfp.mem(h:zfp P rs l){c:List Value}(hc:c∈rs):∃e,e∈l∧P c e:=by
 obtain⟨j,f,rfl⟩:=Vy hc;have a:j < l.length:=by rw[←h.len];exact f
 obtain⟨d,b,g⟩:=h.at_ j _ (Xa a);rw[Xa f] at b;cases b;exact⟨_,Vj a,g⟩
theorem zfp.snoc{c:List Value}{e:α}(h:zfp P rs l)(he:P c e):zfp P (rs++[c]) (l++[e]):=⟨by simp[h.len],fun i x hx=>by
 rcases Yc i l.length with h1|h1
 ·rw[Xu h1] at hx;obtain⟨d,h2,h3⟩:=h.at_ i x hx;exact⟨d,by rw[Xu (by rw[h.len];exact h1)];exact h2,h3⟩
 ·have:i=l.length:=by have:=(Xe.1 hx).1;simp at this;omega
  subst this;rw[Xq (Xb _),Ux] at hx;simp at hx;subst hx;exact⟨c,by rw[Xq (by rw[h.len];exact Xb _),h.len,Ux];rfl,he⟩⟩
theorem zfp.set{c:List Value}{e:α}(h:zfp P rs l)(i:Nat)(he:P c e):zfp P (rs.set i c) (l.set i e):=⟨by simp[h.len],fun j x hx=>by
 rw[Yy] at hx;by_cases hij:i=j
 ·subst hij;rw[Xf rfl] at hx;split at hx
  ·rename_i hl;cases hx;exact⟨c,by rw[Yy,Xf rfl,Xf (by rw[h.len];exact hl)],he⟩
  ·cases hx
 ·rw[Xc hij] at hx;obtain⟨d,h2,h3⟩:=h.at_ j x hx;exact⟨d,by rw[Yy,Xc hij];exact h2,h3⟩⟩
end
theorem zbk(e)(A1 A2 A3)(c1 c2 c3:Nat):∀u∈z3d e A1 c1 A2 c2 A3 c3,u.oneCell'=true:=fun u hu=>by
 simp[z3d] at hu;rcases hu with rfl|rfl|rfl|rfl|rfl|rfl|rfl|rfl|rfl|rfl <;> rfl
theorem z5n:9≠124∧97≠124∧102≠124:=by decide
theorem z7b:9≠24∧97≠24∧102≠24:=by decide
def zcw(w:World)(base mid:Nat)(cs:List Value)(e:Slt):Prop:=z4a w base cs e∧∀u∈cs,∀k,u.ownBlock=some k→k < mid
theorem zcw.fr{w w':World}{base mid:Nat}{S:List Nat}{cs:List Value}{e:Slt}(h:zcw w base mid cs e)(hf:Fr S w w')(hS:∀k,k∈S→mid≤k):zcw w' base mid cs e:=by
 obtain⟨⟨b,c1,f,c2,d,g,rfl,p,n,h3⟩,j⟩:=h
 have a:∀u∈z3d e b c1 f c2 d g,∀k,u.ownBlock=some k→k∉S:=fun u r k m l=>by
  have:=j u r k m;have:=hS k l;omega
 exact⟨⟨b,c1,f,c2,d,g,rfl,z08 p hf (a _ (by simp[z3d])),z08 n hf (a _ (by simp[z3d])),z08 h3 hf (a _ (by simp[z3d]))⟩,j⟩
theorem zcw.row{w w':World}{base mid base' T size n:Nat}{v:Value}{xs cs:List Value}{e:Slt}(h:zcw w base mid cs e)(ho:w.ownsRow base' T size v n xs)(hT:9≠T∧97≠T∧102≠T)(hf:Fr (z1w v) w w'):zcw w' base mid cs e:=
 ⟨h.1.row ho hT hf,h.2⟩
theorem zcw.more{w:World}{base mid mid':Nat}{cs:List Value}{e:Slt}(h:zcw w base mid cs e)(hm:mid≤mid'):zcw w base mid' cs e:=⟨h.1,fun u hu k hk=>Yx (h.2 u hu k hk) hm⟩
theorem zcw.base{w:World}{base base' mid:Nat}{cs:List Value}{e:Slt}(h:zcw w base mid cs e)(hb:base'≤base):zcw w base' mid cs e:=⟨h.1.base hb,h.2⟩
theorem z7w{w:World}{base e size n:Nat}{v:Value}{xs:List Value}(h:w.ownsRow base e size v n xs){k:Nat}(hk:v.ownBlock=some k):k < w.heap.size:=(h.lt k hk).2
theorem z4a.i{w:World}{base:Nat}{cs:List Value}{e:Slt}(h:z4a w base cs e):zcw w base w.heap.size cs e:=by
 refine⟨h,?_⟩;obtain⟨g,c1,l,c2,j,m,rfl,f,d,h3⟩:=h;intro u b k a;simp[z3d] at b;rcases b with rfl|rfl|rfl|rfl|rfl|rfl|rfl|rfl|rfl|rfl
 ·cases a
 ·cases a
 ·cases a
 ·cases a
 ·exact z7w f a
 ·exact z7w d a
 ·exact z7w h3 a
 ·cases a
 ·cases a
 ·cases a
def z2b(w:World)(base mid:Nat)(v:Value)(l:List Slt):Prop:=∃rs:List (List Value),zfp (zcw w base mid) rs l∧w.ownsRow base 124 10 v l.length rs.flatten
theorem z2b.form{w:World}{base mid:Nat}{v:Value}{l:List Slt}(h:z2b w base mid v l):∃A c,v=.slice A l.length c:=by
 obtain⟨b,_,a⟩:=h;obtain⟨A,c,rfl,-⟩:=z05 a;exact⟨A,c,rfl⟩
theorem z2b.o{w:World}{base mid:Nat}{v:Value}{l:List Slt}(h:z2b w base mid v l):z6c w base v l:=by
 obtain⟨b,a,d⟩:=h;exact⟨b,a.len,(a.imp fun _ _ h=>h.1).at_,d⟩
theorem z6c.i{w:World}{base:Nat}{v:Value}{l:List Slt}(h:z6c w base v l):z2b w base w.heap.size v l:=by
 obtain⟨b,a,d,h3⟩:=h;exact⟨b,(zfp.mk a d).imp fun _ _ h=>h.i,h3⟩
theorem z2b.nil(w)(base mid:Nat):z2b w base mid (.slice none 0 0) []:=⟨[],zfp.nil,World.ownsRow_nil _ _ _ _⟩
theorem z2b.more{w:World}{base mid mid':Nat}{v:Value}{l:List Slt}(h:z2b w base mid v l)(hm:mid≤mid'):z2b w base mid' v l:=by
 obtain⟨b,a,d⟩:=h;exact⟨b,a.imp fun _ _ h=>h.more hm,d⟩
theorem z2b.fr{w w':World}{base mid:Nat}{S:List Nat}{v:Value}{l:List Slt}(h:z2b w base mid v l)(hf:Fr S w w')(hS:∀k,k∈S→mid≤k)(hn:∀k,v.ownBlock=some k→k∉S):z2b w' base mid v l:=by
 obtain⟨b,a,d⟩:=h;exact⟨b,a.imp fun _ _ h=>h.fr hf hS,z08 d hf hn⟩
theorem z2b.go{w w':World}{base mid:Nat}{v:Value}{l:List Slt}(h:z2b w base mid v l)(hf:Fr [] w w'):z2b w' base mid v l:=h.fr hf (by simp) (by simp)
theorem z2b.row{w w':World}{base mid base' T size n:Nat}{v u:Value}{xs:List Value}{l:List Slt}(h:z2b w base mid v l)(ho:w.ownsRow base' T size u n xs)(hT:(9≠T∧97≠T∧102≠T)∧124≠T)(hf:Fr (z1w u) w w'):z2b w' base mid v l:=by
 obtain⟨d,b,a⟩:=h;exact⟨d,b.imp fun _ _ h=>h.row ho hT.1 hf,z08 a hf (z0w a ho hT.2)⟩
theorem z2b.far{w:World}{base mid o T i:Nat}{v:Value}{cs:List Value}{l:List Slt}(h:z2b w base mid v l)(hw:Whole w o T cs)(hT:(T≠9∧T≠97∧T≠102)∧T≠124)(u):z2b (w.setCell ⟨o,i,none⟩ u) base mid v l:=by
 obtain⟨g,p,b⟩:=h;refine⟨g,p.imp fun cs e h=>?_,z0r _ b (z0u b hw hT.2)⟩;obtain⟨⟨j,c1,m,c2,k,n,rfl,a,d,f⟩,r⟩:=h;exact⟨⟨j,c1,m,c2,k,n,rfl,z0r _ a (z0u a hw hT.1.1),z0r _ d (z0u d hw hT.1.2.1),z0r _ f (z0u f hw hT.1.2.2)⟩,r⟩
theorem zfh{w:World}{base mid:Nat}{rs:List (List Value)}{l:List Slt}(h:zfp (zcw w base mid) rs l):∀c∈rs,c.length=10:=fun c hc=>by
 obtain⟨e,_,h⟩:=h.mem hc;exact h.1.len
theorem zp0(n:Nat)(u):∀(rs:List (List Value)) (i j:Nat) (cs),(∀c∈rs,c.length=n)→rs[i]? = some cs→j < n→rs.flatten.set (i * n+j) u=(rs.set i (cs.set j u)).flatten
 | [],i,j,cs,_,h,_=>by simp at h
 | r :: rs,0,j,cs,hl,h,hj=>by
  simp at h;subst h;have hr:=hl r (by simp);rw[Jv,Yw,Xn,Ua,Ua,List.set_append_left _ _ (by omega)]
 | r :: rs,i+1,j,cs,hl,h,hj=>by
  have hr:=hl r (by simp);have e:(i+1) * n=i * n+n:=Vl i n;rw[Xm,Ua,Ua,Jx _ _ (by omega),show(i+1) * n+j - r.length=i * n+j from by omega];rw[zp0 n u rs i j cs (fun c hc=>hl c (by simp[hc])) (by simpa using h) hj]
theorem q0c{w:World}{base e k n g c i j:Nat}{rs:List (List Value)}{cs:List Value}(h:w.ownsRow base e k (.slice (some ⟨g,0,none⟩) n c) n rs.flatten)(hl:∀x∈rs,x.length=k)(hi:rs[i]? = some cs)(hj:j < k)(u:Value):
  (w.setCell ⟨g,i * k+j,none⟩ u).ownsRow base e k (.slice (some ⟨g,0,none⟩) n c) n (rs.set i (cs.set j u)).flatten:=by
 obtain⟨a,b,f,d,h3,h4,l,m⟩:=z3j h;rw[←zp0 k u rs i j cs hl hi hj,←d];have:=z2j (n:=n) (b.set_ (i * k+j) u) (by rw[Ug];exact f) h3 h4 l;rw[List.take_set] at this;exact this
theorem zw5{w:World}{base e n g c i:Nat}{xs:List Value}(h:w.ownsRow base e 1 (.slice (some ⟨g,0,none⟩) n c) n xs)(hi:i < n)(u:Value):
  (w.setCell ⟨g,i,none⟩ u).ownsRow base e 1 (.slice (some ⟨g,0,none⟩) n c) n (xs.set i u):=by
 obtain⟨a,b,f,d,h3,h4,j,k⟩:=z3j h;rw[←d];have:=z2j (n:=n) (b.set_ i u) (by rw[Ug];exact f) h3 h4 j;rw[List.take_set,Vo] at this;rw[Vo];exact this
def zcc(w:World)(g o:Nat):List (Nat×Value)→World
 | []=>w
 | p :: l=>zcc (w.setCell ⟨g,o+p.1,none⟩ p.2) g o l
def zd6(cs:List Value):List (Nat×Value)→List Value
 | []=>cs
 | p :: l=>zd6 (cs.set p.1 p.2) l
theorem zkv{base e k n g c i:Nat}:∀(ps:List (Nat×Value)) {w:World} {rs:List (List Value)} {cs:List Value},w.ownsRow base e k (.slice (some ⟨g,0,none⟩) n c) n rs.flatten→(∀x∈rs,x.length=k)→rs[i]? = some cs→(∀p∈ps,p.1 < k) →
  (zcc w g (i * k) ps).ownsRow base e k (.slice (some ⟨g,0,none⟩) n c) n (rs.set i (zd6 cs ps)).flatten
 | [],w,rs,cs,h,hl,hi,hp=>by
  show w.ownsRow _ _ _ _ _ (rs.set i cs).flatten
  have e:rs.set i cs=rs:=by
   refine Ji fun j=>?_;rw[Yy];by_cases hij:i=j
   ·subst hij;rw[Xf rfl,Xf (Xe.1 hi).1,hi]
   ·rw[Xc hij]
  rw[e];exact h
 | p :: ps,w,rs,cs,h,hl,hi,hp=>by
  have m:=q0c h hl hi (hp p (.head _)) p.2;have b:=(Xe.1 hi).1;have a:=hl cs (Xj hi)
  have f:=zkv ps m (i:=i) (cs:=cs.set p.1 p.2) (fun x d=>by
   rcases Us d with d|rfl
   ·exact hl x d
   ·rw[Ug];exact a) (by rw[Yy,Xf rfl,Xf b]) (fun q l=>hp q (.tail _ l))
  rw[List.set_set] at f;exact f
theorem z87{g o:Nat}:∀(ps:List (Nat×Value)) (w),Fr [g] w (zcc w g o ps)
 | [],w=>Fr.refl _ _
 | p :: ps,w=>((Fr.refl [g] w).setCell (p:=⟨g,o+p.1,none⟩) (.inl (by simp)) p.2).trans (z87 ps _)
theorem z2b.put{w:World}{base mid g c i:Nat}{l:List Slt}{e y:Slt}(h:z2b w base mid (.slice (some ⟨g,0,none⟩) l.length c) l)(he:l[i]? = some e)(ps:List (Nat×Value))(hp:∀p∈ps,p.1 < 10)
  (hy:∀w' cs,Fr [g] w w'→zcw w' base mid cs e→zcw w' base mid (zd6 cs ps) y):z2b (zcc w g (i * 10) ps) base mid (.slice (some ⟨g,0,none⟩) (l.set i y).length c) (l.set i y):=by
 obtain⟨k,b,f⟩:=h;obtain⟨cs,d,m⟩:=b.at_ i e he;have n:=zkv (i:=i) ps f (zfh b) d hp;have j:=z87 (g:=g) (o:=i * 10) ps w
 have a:∀cs e,zcw w base mid cs e→zcw (zcc w g (i * 10) ps) base mid cs e:=fun cs e h=>h.row f z5n (by
  show Fr (z1w (.slice (some ⟨g,0,none⟩) l.length c)) _ _;have:z1w (.slice (some ⟨g,0,none⟩) l.length c)=[g]:=rfl;rw[this];exact j)
 refine⟨k.set i (zd6 cs ps),(b.imp a).set i (hy _ _ j (a _ _ m)),?_⟩;rw[Ug];exact n
def Apart(vs:List Value):Prop:=∀(i j:Nat) (u v:Value),i≠j→vs[i]? = some u→vs[j]? = some v→∀k,u.ownBlock=some k→v.ownBlock≠some k
theorem Apart.snoc{vs:List Value}{v:Value}(h:Apart vs)(hv:∀u∈vs,∀k,u.ownBlock=some k→v.ownBlock≠some k):Apart (vs++[v]):=by
 intro i j a b m e d k f;rcases Yc i vs.length with h1|h1
 ·rw[Xu h1] at e;rcases Yc j vs.length with h2|h2
  ·rw[Xu h2] at d;exact h i j a b m e d k f
  ·rw[Xq h2] at d
   have:b=v:=by
    have:=Xj d;simpa using this
   subst this;exact hv a (Xj e) k f
 ·rw[Xq h1] at e
  have g:a=v:=by
   have:=Xj e;simpa using this
  have p:i - vs.length < 1:=by have:=(Xe.1 e).1;simpa using this
  subst g;rcases Yc j vs.length with h2|h2
  ·rw[Xu h2] at d;exact fun l=>hv b (Xj d) k l f
  ·rw[Xq h2] at d;have n:j - vs.length < 1:=by have:=(Xe.1 d).1;simpa using this
   omega
theorem Apart.set{vs:List Value}{n:Nat}{v:Value}(h:Apart vs)(hv:∀(j:Nat) (u),j≠n→vs[j]? = some u→∀k,u.ownBlock=some k→v.ownBlock≠some k):Apart (vs.set n v):=by
 intro i j a b l e d k f;rw[Yy] at e d;by_cases h1:n=i
 ·rw[Xf h1] at e;have:v=a:=by split at e;exact Option.some.inj e;cases e
  subst this;rw[Xc (by omega)] at d;exact fun g=>hv j b (by omega) d k g f
 ·rw[Xc h1] at e;by_cases h2:n=j
  ·rw[Xf h2] at d;have:v=b:=by split at d;exact Option.some.inj d;cases d
   subst this;exact hv i a (by omega) e k f
  ·rw[Xc h2] at d;exact h i j a b l e d k f
def z71(w:World)(base:Nat)(v:Value)(ls:List YX):Prop:=∃vs:List Value,zbn (TxO w base) vs ls∧Apart vs∧w.ownsRow base 24 1 v ls.length vs
theorem z71.form{w:World}{base:Nat}{v:Value}{ls:List YX}(h:z71 w base v ls):∃A c,v=.slice A ls.length c:=by
 obtain⟨b,_,_,a⟩:=h;obtain⟨A,c,rfl,-⟩:=z05 a;exact⟨A,c,rfl⟩
theorem z71.o{w:World}{base:Nat}{v:Value}{ls:List YX}(h:z71 w base v ls):q26 w base v ls:=by
 obtain⟨b,a,_,h3⟩:=h;exact⟨b,a,h3⟩
theorem z71.nil(w)(base:Nat):z71 w base (.slice none 0 0) []:=⟨[],zbn.nil,fun i j u v _ h=>by simp at h,World.ownsRow_nil _ _ _ _⟩
theorem z71.go{w w':World}{base:Nat}{v:Value}{ls:List YX}(h:z71 w base v ls)(hf:Fr [] w w'):z71 w' base v ls:=by
 obtain⟨d,a,b,h3⟩:=h;exact⟨d,a.imp fun _ _ h=>z08 h hf (by simp),b,z08 h3 hf (by simp)⟩
theorem z71.base{w:World}{base base':Nat}{v:Value}{ls:List YX}(h:z71 w base v ls)(hb:base'≤base):z71 w base' v ls:=by
 obtain⟨d,a,b,h3⟩:=h;exact⟨d,a.imp fun _ _ h=>z0i h hb,b,z0i h3 hb⟩
theorem z71.row{w w':World}{base base' T size n:Nat}{v u:Value}{xs:List Value}{ls:List YX}(h:z71 w base v ls)(ho:w.ownsRow base' T size u n xs)(hT:9≠T∧24≠T)(hf:Fr (z1w u) w w'):z71 w' base v ls:=by
 obtain⟨d,a,b,h3⟩:=h;exact⟨d,a.imp fun _ _ h=>z08 h hf (z0w h ho hT.1),b,z08 h3 hf (z0w h3 ho hT.2)⟩
theorem z71.far{w:World}{base o T i:Nat}{v:Value}{cs:List Value}{ls:List YX}(h:z71 w base v ls)(hw:Whole w o T cs)(hT:T≠9∧T≠24)(u):z71 (w.setCell ⟨o,i,none⟩ u) base v ls:=by
 obtain⟨d,a,b,h3⟩:=h;exact⟨d,a.imp fun _ _ h=>z0r _ h (z0u h hw hT.1),b,z0r _ h3 (z0u h3 hw hT.2)⟩
theorem z71.snoc{w w':World}{base n:Nat}{v v' x:Value}{l:YX}{ls:List YX}{vs:List Value}(hr:zbn (TxO w base) vs ls)(ha:Apart vs)(hx:TxO w base x l)(hax:∀u∈vs,∀k,u.ownBlock=some k→x.ownBlock≠some k)(hn:ls.length=n)(ho:w.ownsRow base 24 1 v n vs)(hg:w.grownBy w' v.ownBlock)(ho':w'.ownsRow base 24 1 v' (n+1) (vs++[x])):z71 w' base v' (ls++[l]):=
 ⟨vs++[x],(hr.imp (fun _ _ h=>h.grown ho hg)).snoc (hx.grown ho hg),ha.snoc hax,by rw[Xk,hn];exact ho'⟩
theorem z71.put{w w1:World}{base g c n:Nat}{u x:Value}{l:YX}{ls:List YX}{vs:List Value}(hr:zbn (TxO w base) vs ls)(ha:Apart vs)(hu:vs[n]? = some u)
  (ho:w.ownsRow base 24 1 (.slice (some ⟨g,0,none⟩) ls.length c) ls.length vs) (hf:Fr (z1w u) w w1) (hx:TxO w1 base x l) (hxb:∀k,x.ownBlock=some k→k∈z1w u∨w.heap.size≤k):
  z71 (w1.setCell ⟨g,n,none⟩ x) base (.slice (some ⟨g,0,none⟩) (ls.set n l).length c) (ls.set n l):=by
 obtain⟨s,-⟩:=Xe.1 hu;have a:n < ls.length:=by rw[←hr.len];exact s
 obtain⟨C,A⟩:∃C,ls[n]? = some C:=⟨_,Xa a⟩;obtain⟨J,f,H⟩:=hr.at_ n C A;rw[hu] at f;cases f
 have d:∀ {v:Value} {k:Nat},k∈z1w v→v.ownBlock=some k:=fun {v k} b=>by
  unfold z1w at b;split at b
  ·simp at b;subst b;rfl
  ·cases b
 have r:=z08 ho hf (z0w ho H (by decide))
 have G:∀ {v:Value} {m:YX},TxO w1 base v m→TxO (w1.setCell ⟨g,n,none⟩ x) base v m:=fun {v m} h=>z0r (p:=⟨g,n,none⟩) x h (fun E=>by
  rcases z7v h r (by decide) with h1|h1
  ·rw[h1] at E;cases E
  ·exact h1 (E.trans rfl))
 refine⟨vs.set n x,⟨by simp[hr.len],fun j y t=>?_⟩,ha.set (fun j v K F k b=>?_),?_⟩
 ·rw[Yy] at t;by_cases hij:n=j
  ·subst hij;rw[Xf rfl,Xf a] at t;cases t;exact⟨x,by rw[Yy,Xf rfl,Xf s],G hx⟩
  ·rw[Xc hij] at t;obtain⟨v,e,h3⟩:=hr.at_ j y t;refine⟨v,by rw[Yy,Xc hij];exact e,G (z08 h3 hf fun k b z=>?_)⟩;exact ha n j u v (by omega) hu e k (d z) b
 ·intro D;rcases hxb k D with z|z
  ·exact ha n j u v (by omega) hu F k (d z) b
  ·have B:j < ls.length:=by rw[←hr.len];exact(Xe.1 F).1
   obtain⟨I,e,h3⟩:=hr.at_ j _ (Xa B);rw[F] at e;cases e;have:=z7w h3 b;omega
 ·rw[Ug];exact zw5 r a x
end
end Go.Proofs.YtnmoajaelmimnaaGreatDoor
