/- Contracts; no condition but each theorem's own. -/
import Derived.Test.YtmkhmejempcimaaGreatDoorSlU10
import Derived.Test.YtmkhmejempcimaaGreatDoorSlU12
import Derived.Test.YtmkhmejempcimaaGreatDoorSlU13
import Derived.Test.YtmkhmejempcimaaGreatDoorSlU14
set_option linter.unusedVariables false
set_option linter.unusedSimpArgs false
set_option maxHeartbeats 8000000
set_option maxRecDepth 100000
namespace Go.Proofs.YtmkhmejempcimaaGreatDoor
open Lib (hid)
open Go.Proofs.Tryz (prog)
open Go.RowKit
def hasT(l:List ByteArray)(s:ByteArray):Bool:=l.any fun y=>decide (y=s)
def zou(l m:List ByteArray):List ByteArray:=l.filter fun y=>!hasT m y
theorem neqB'{s t:ByteArray}(h:s≠t):(s.toList==t.toList)=false:=by
 have:=eqB s t;rw[decide_eq_false h] at this;exact this
def zhy(p s:ByteArray):Int:=if z8s p=0∧60 < s.size then 2 else z8s p
def zlh(p s:ByteArray):Bool:=decide (zhy p s=0)&&zli (((zca p 0).getD []).map (·.2)) s s.size
end Go.Proofs.YtmkhmejempcimaaGreatDoor
namespace Go.Proofs.YtmkhmejempcimaaGreatDoor
open Lib (hid)
open Go.Proofs.Tryz (prog)
open Go.ChangeShapes Go.WideShapes Go.RowKit Go.Deep
theorem zav(n:Nat)(hn:0 < n):∀(rs:List (List Value)) (j:Nat) (u:Value),(∀c∈rs,c.length=n)→rs.flatten[j]? = some u→∃(i k:Nat) (cs:List Value),rs[i]? = some cs∧k < n∧j=i * n+k∧cs[k]? = some u
 | [],j,u,_,h=>by simp at h
 | r :: rs,j,u,hl,h=>by
  have hr:=hl r (by simp);rw[List.flatten_cons] at h;rcases Nat.lt_or_ge j n with hj|hj
  ·rw[List.getElem?_append_left (by omega)] at h;exact⟨0,j,r,rfl,hj,by omega,h⟩
  ·rw[List.getElem?_append_right (by omega),hr] at h;obtain⟨i,k,cs,h1,h2,h3,h4⟩:=zav n hn rs (j - n) u (fun c hc=>hl c (by simp[hc])) h;exact⟨i+1,k,cs,by simpa using h1,h2,by rw[Nat.succ_mul];omega,h4⟩
section
variable {H:Type} {enc:TypeId×Value→H} {w:World}
end
end Go.Proofs.YtmkhmejempcimaaGreatDoor
namespace Go.Proofs.YtmkhmejempcimaaGreatDoor
open Lib (hid)
open Go.Proofs.Tryz (prog)
def lowC(l:List (Int×ByteArray))(s:Int×ByteArray):Nat:=(l.takeWhile fun q=>decide (zmm q s < 0)).length
def insC(l:List (Int×ByteArray))(s:Int×ByteArray):List (Int×ByteArray):=l.take (lowC l s)++s :: l.drop (lowC l s)
def offC(l:List (Int×ByteArray))(m:ByteArray):List (Int×ByteArray):=l.filter fun q=>!decide (q.2=m)
def putC(l:List (Int×ByteArray))(s:Int×ByteArray):List (Int×ByteArray):=insC (offC l s.2) s
def zpa:List (Int×ByteArray)→Int
 | []=>0
 | s :: r=>if z17 s.1=false then 3 else if 60 < s.2.size then 2 else zpa r
def znm(l:List (Int×ByteArray)):Int:=if l.length=0 then 1 else zpa l
def zpl(l:List (Int×ByteArray)):Itm:=⟨5,⟨#[]⟩,[],[],l⟩
def ofC(l:List (Int×ByteArray)):Itm:=if l.length=0 then z2l 0 else zpl l
def znx(x:Itm)(l:List (Int×ByteArray)):List (Int×ByteArray):=l.foldl putC x.scores
def pre5(x:Itm)(l:List (Int×ByteArray)):Int:=if z0a 5 x≠0 then z0a 5 x else znm l
def put5(x:Itm)(l:List (Int×ByteArray)):Int:=if pre5 x l≠0 then pre5 x l else if 24 < (znx x l).length then 2 else 0
def put5Y(x:Itm)(l:List (Int×ByteArray)):Itm:=if put5 x l=0 then ofC (znx x l) else z2l 0
def put5N(x:Itm)(l:List (Int×ByteArray)):Int:=if put5 x l=0 then ((znx x l).length:Int) - x.scores.length else 0
def zp3(x:Itm)(l:List ByteArray):List (Int×ByteArray):=x.scores.filter fun p=>!(l.any fun y=>decide (y=p.2))
def zoi(x:Itm)(l:List ByteArray):Itm:=if z0a 5 x=0 then ofC (zp3 x l) else z2l 0
def zp8(x:Itm)(l:List ByteArray):Int:=if z0a 5 x=0 then (x.scores.length:Int) - (zp3 x l).length else 0
def zn9(x:Itm)(m:ByteArray):Int:=z2w (fun q:Int×ByteArray=>decide (q.2=m)) x.scores
def z7m(x:Itm)(m:ByteArray):Int:=if z0a 5 x≠0 then z0a 5 x else if zn9 x m < 0 then 5 else 0
def rankN(x:Itm)(m:ByteArray):Int:=if z7m x m=0 then zn9 x m else 0
def numN(x:Itm)(m:ByteArray):Int:=if z7m x m=0 then (x.scores.getD (zn9 x m).toNat (0,⟨#[]⟩)).1 else 0
def zpp(x:Itm)(f t:Int):List ByteArray:=if z0a 5 x=0 then zd7 (x.scores.map (·.2)) f t else []
def zmv(l:List (Int×ByteArray))(a b:Int):List ByteArray:=(l.filter fun s=>decide (a≤s.1)&&decide (s.1≤b)).map (·.2)
def znb(x:Itm)(a b:Int):List ByteArray:=if z0a 5 x=0 then zmv x.scores a b else []
end Go.Proofs.YtmkhmejempcimaaGreatDoor
namespace Go.Proofs.YtmkhmejempcimaaGreatDoor
open Lib (hid)
open Go.Proofs.Tryz (prog)
open Go.RowKit
structure RelL{α:Type}(P:List Value→α→Prop)(rs:List (List Value))(l:List α):Prop where
 len:rs.length=l.length
 at_:∀(i:Nat) (x:α),l[i]? = some x→∃cs:List Value,rs[i]? = some cs∧P cs x
def rp4(x:Rp1)(A:Option Addr)(c:Nat):List Value:=[.int .i64 x.kind,.string x.text,.int .i64 x.n,.slice A x.sub c]
def RpC(cs:List Value)(x:Rp1):Prop:=∃A c,cs=rp4 x A c
def RepV(w:World)(B:Nat)(v:Value)(r:Rep):Prop:=
 ∃A c,∃rs:List (List Value),v=.agg #[.int .i64 r.kind,.string r.text,.int .i64 r.n,.slice A r.list.length c]∧RelL RpC rs r.list∧Sl w B 4 (.slice A r.list.length c) r.list.length rs.flatten
theorem RepV.form{w:World}{B:Nat}{v:Value}{r:Rep}(h:RepV w B v r):∃A c,v=.agg #[.int .i64 r.kind,.string r.text,.int .i64 r.n,.slice A r.list.length c]:=by
 obtain⟨A,c,rs,e,_⟩:=h;exact⟨A,c,e⟩
def z9w(l:List Rp1):List Value:=l.flatMap fun x=>rp4 x none 0
def z4x(w:World)(base:Nat)(v:Value)(r:Rep):Prop:=(∀x∈r.list,x.sub=0)∧∃u,v=.agg #[.int .i64 r.kind,.string r.text,.int .i64 r.n,u]∧w.ownsRow base 54 4 u r.list.length (z9w r.list)
theorem z4x.v{w:World}{base:Nat}{v:Value}{r:Rep}(h:z4x w base v r):RepV w w.heap.size v r:=by
 obtain⟨h0,u,rfl,ho⟩:=h;obtain⟨A,c,rfl,-⟩:=z02 ho;refine⟨A,c,r.list.map fun x=>rp4 x none 0,rfl,⟨by simp,fun i x hx=>⟨rp4 x none 0,by rw[List.getElem?_map,hx];rfl,none,0,rfl⟩⟩,?_⟩;have:=z0o ho;unfold z9w at this;rw[List.flatMap_def] at this;exact this
theorem z4x.form{w:World}{base:Nat}{v:Value}{r:Rep}(h:z4x w base v r):∃A c,v=.agg #[.int .i64 r.kind,.string r.text,.int .i64 r.n,.slice A r.list.length c]:=h.v.form
theorem z4x.fr{w w':World}{base:Nat}{v:Value}{r:Rep}(h:z4x w base v r)(hf:Fr [] w w'):z4x w' base v r:=by
 obtain⟨h0,u,rfl,ho⟩:=h;exact⟨h0,u,rfl,z05 ho hf (by simp)⟩
theorem z4x.base{w:World}{base base':Nat}{v:Value}{r:Rep}(h:z4x w base v r)(hb:base'≤base):z4x w base' v r:=by
 obtain⟨h0,u,rfl,ho⟩:=h;exact⟨h0,u,rfl,z09 ho hb⟩
theorem z4x.bare(w:World)(base:Nat)(k n:Int)(t:ByteArray):z4x w base (.agg #[.int .i64 k,.string t,.int .i64 n,.slice none 0 0]) ⟨k,t,n,[]⟩:=
 ⟨(fun x hx=>by cases hx),_,rfl,World.ownsRow_nil _ _ _ _⟩
theorem four{w:World}{g t:Nat}{a b c d:Value}(hw:Whole w g t [a,b,c,d]):
  w.cell? ⟨g,0,none⟩=some a∧w.cell? ⟨g,1,none⟩=some b∧w.cell? ⟨g,2,none⟩=some c∧w.cell? ⟨g,3,none⟩=some d:=⟨hw.cell 0,hw.cell 1,hw.cell 2,hw.cell 3⟩
theorem z5s{w:World}{g t:Nat}{a b c d:Value}(hw:Whole w g t [a,b,c,d]):
  w.frozen? ⟨g,0,none⟩=false∧w.frozen? ⟨g,1,none⟩=false∧w.frozen? ⟨g,2,none⟩=false∧w.frozen? ⟨g,3,none⟩=false:=⟨hw.frozen 0,hw.frozen 1,hw.frozen 2,hw.frozen 3⟩
theorem zjf(x:Itm)(v:Value)(w:World)(B:Nat)(hs:x.Small)(hB:B≤w.heap.size)(h:z1m w B v x):
  Calls prog 189 #[v] w fun e w'=>e=.returned (.int .i64 (z0a 2 x))∧Fr [] w w':=by
 have M:=hid (fun W (hf:Fr [] w W)=>zps x 2 v W B hs (Nat.le_trans hB hf.size) (h.fr hf hB (by simp)));obtain⟨A1,c1,A2,c2,A3,c3,rfl,h1,h2,h3⟩:=h;have F1:Fr [] w (w.alloc (.cells #[.int .i64 x.kind,.string x.text,.slice A1 x.list.length c1,.slice A2 x.pairs.length c2,.slice A3 x.scores.length c3] 46)):=(Fr.refl [] w).alloc _;go_enter Tryz.func189,Tryz.ntmps189;go_wp2_with fail;refine(M.out _ F1).mono ?_;rintro e w1 ⟨rfl,f1⟩;go_wp2;go_ret;exact⟨rfl,F1.trans f1⟩
theorem zh5(l:List ByteArray)(A:Option Addr)(c:Nat)(w:World)(B:Nat)(hs:(zd8 l).Small)(hB:B≤w.heap.size)(h:Sl w B 1 (.slice A l.length c) l.length (z04 l)):
  Calls prog 192 #[.slice A l.length c] w fun e w'=>e=.returned (if l.length=0 then .agg #[.int .i64 0,.string ⟨#[]⟩,.slice none 0 0,.slice none 0 0,.slice none 0 0] else .agg #[.int .i64 2,.string ⟨#[]⟩,.slice A l.length c,.slice none 0 0,.slice none 0 0])∧Fr [] w w':=by
 have hv:z1m w B (.agg #[.int .i64 2,.string ⟨#[]⟩,.slice A l.length c,.slice none 0 0,.slice none 0 0]) (zd8 l):=⟨A,c,none,0,none,0,rfl,h,Sl.nil _ _ _,Sl.nil _ _ _⟩;have O:=hid (fun W (hf:Fr [] w W)=>(show Calls prog 238 #[.agg #[.int .i64 2,.string ⟨#[]⟩,.slice A l.length c,.slice none 0 0,.slice none 0 0]] W fun e w'=>e=.returned (if l.length=0 then .agg #[.int .i64 0,.string ⟨#[]⟩,.slice none 0 0,.slice none 0 0,.slice none 0 0] else .agg #[.int .i64 2,.string ⟨#[]⟩,.slice A l.length c,.slice none 0 0,.slice none 0 0])∧Fr [] W w' from by have:=zpq (zd8 l) (.agg #[.int .i64 2,.string ⟨#[]⟩,.slice A l.length c,.slice none 0 0,.slice none 0 0]) W B hs (Nat.le_trans hB hf.size) (hv.fr hf hB (by simp)) (show(2:Int)≠1 by decide);unfold ofV at this;rw[show many (zd8 l)=l.length from by show l.length+0+0=l.length;omega] at this;exact this));have F1:Fr [] w (w.alloc (.cells #[.int .i64 0,.string ⟨#[]⟩,.slice none 0 0,.slice none 0 0,.slice none 0 0] 46)):=(Fr.refl [] w).alloc _;have R1:=hid (show Whole (w.alloc (.cells #[.int .i64 0,.string ⟨#[]⟩,.slice none 0 0,.slice none 0 0,.slice none 0 0] 46)) w.heap.size 46 [.int .i64 0,.string ⟨#[]⟩,.slice none 0 0,.slice none 0 0,.slice none 0 0] from Whole.new w _ _);clear hv h hs;by_cases hm:l.length=0
 ·rw[if_pos hm] at O ⊢;clear hm;go_enter Tryz.func192,Tryz.ntmps192;go_wp2_with fail;refine(O.out _ F1).mono ?_;rintro e w1 ⟨rfl,f1⟩;have F2:=F1.trans f1;have R2:=hid (R1.out.fr f1 (by simp));obtain⟨a0,a1,a2,a3,a4⟩:=five R2.out;obtain⟨b0,b2,b3,b4,b5⟩:=z23 R2.out;go_wp2;refine bodyPost_ret (v:=.agg #[.int .i64 0,.string ⟨#[]⟩,.slice none 0 0,.slice none 0 0,.slice none 0 0]) (by simp[results,Tryz.results192,go_sem,a0,a1,a2,a3,a4]) rfl ?_;refine⟨rfl,z3o F2 (Nat.le_refl _) _ _ _ _ _⟩
 ·rw[if_neg hm] at O ⊢;clear hm;go_enter Tryz.func192,Tryz.ntmps192;go_wp2_with fail;refine(O.out _ F1).mono ?_;rintro e w1 ⟨rfl,f1⟩;have F2:=F1.trans f1;have R2:=hid (R1.out.fr f1 (by simp));obtain⟨a0,a1,a2,a3,a4⟩:=five R2.out;obtain⟨b0,b2,b3,b4,b5⟩:=z23 R2.out;go_wp2;refine bodyPost_ret (v:=.agg #[.int .i64 2,.string ⟨#[]⟩,.slice A l.length c,.slice none 0 0,.slice none 0 0]) (by simp[results,Tryz.results192,go_sem,a0,a1,a2,a3,a4]) rfl ?_;refine⟨rfl,z3o F2 (Nat.le_refl _) _ _ _ _ _⟩
theorem zfh(n:Int)(w:World):Calls prog 35 #[.int .i64 n] w fun e w'=>e=.returned (.bool (z3h n))∧w=w':=by
 by_cases h1:0≤n
 ·by_cases h2:n≤1000000
  ·rw[show z3h n=true from by unfold z3h;rw[decide_eq_true h1,decide_eq_true h2];rfl];go_enter Tryz.func35,Tryz.ntmps35;go_wp2;go_ret;exact⟨rfl,rfl⟩
  ·rw[show z3h n=false from by unfold z3h;rw[decide_eq_false h2,Bool.and_false]];have h3:decide (n≤1000000)=false:=decide_eq_false h2;go_enter Tryz.func35,Tryz.ntmps35;go_wp2;go_ret;exact⟨rfl,rfl⟩
 ·rw[show z3h n=false from by unfold z3h;rw[decide_eq_false h1,Bool.false_and]];have h3:decide (0≤n)=false:=decide_eq_false h1;go_enter Tryz.func35,Tryz.ntmps35;go_wp2;go_ret;exact⟨rfl,rfl⟩
theorem zet(t n:Int)(w:World):Calls prog 184 #[.int .i64 t,.int .i64 n] w fun e w'=>e=.returned (.bool (z3n t n))∧w=w':=by
 by_cases h1:t=0
 ·rw[show z3n t n=false from by unfold z3n;rw[decide_eq_false (by simpa using h1),Bool.false_and]];have q1:(t != 0)=false:=by simpa using h1
  clear h1;go_enter Tryz.func184,Tryz.ntmps184;go_wp2;go_ret;exact⟨rfl,rfl⟩
 ·have q1:(t != 0)=true:=by simpa using h1
  by_cases h2:t≤n
  ·rw[show z3n t n=true from by unfold z3n;rw[decide_eq_true h1,decide_eq_true h2];rfl];clear h1;go_enter Tryz.func184,Tryz.ntmps184;go_wp2;go_ret;exact⟨rfl,rfl⟩
  ·rw[show z3n t n=false from by unfold z3n;rw[decide_eq_false h2,Bool.and_false]];have h3:decide (t≤n)=false:=decide_eq_false h2;clear h1 h2;go_enter Tryz.func184,Tryz.ntmps184;go_wp2;go_ret;exact⟨rfl,rfl⟩
theorem seven{w:World}{g t:Nat}{a b c d e f h:Value}(hw:Whole w g t [a,b,c,d,e,f,h]):
  w.cell? ⟨g,0,none⟩=some a∧w.cell? ⟨g,1,none⟩=some b∧w.cell? ⟨g,2,none⟩=some c∧w.cell? ⟨g,3,none⟩=some d∧w.cell? ⟨g,4,none⟩=some e∧w.cell? ⟨g,5,none⟩=some f∧w.cell? ⟨g,6,none⟩=some h:=
 ⟨hw.cell 0,hw.cell 1,hw.cell 2,hw.cell 3,hw.cell 4,hw.cell 5,hw.cell 6⟩
theorem z9m{w:World}{g t:Nat}{a b c d e f h:Value}(hw:Whole w g t [a,b,c,d,e,f,h]):
  w.frozen? ⟨g,0,none⟩=false∧w.frozen? ⟨g,1,none⟩=false∧w.frozen? ⟨g,2,none⟩=false∧w.frozen? ⟨g,3,none⟩=false∧w.frozen? ⟨g,4,none⟩=false∧w.frozen? ⟨g,5,none⟩=false∧w.frozen? ⟨g,6,none⟩=false:=
 ⟨hw.frozen 0,hw.frozen 1,hw.frozen 2,hw.frozen 3,hw.frozen 4,hw.frozen 5,hw.frozen 6⟩
theorem zcd(k s:ByteArray)(b c d e f g:Value)(w:World):Calls prog 235 (#[.agg #[.string k,b,c,d,e,f,g],.string s]++#[]) w fun e w'=>e=.returned (.int .i64 (z36 k s))∧Fr [] w w':=by
 have F1:=hid ((Fr.refl [] w).alloc (.cells #[.string k,b,c,d,e,f,g] 74));go_enter Tryz.func235,Tryz.ntmps235;go_wp2_with fail;refine(z3e k s _).mono ?_;rintro e w1 ⟨rfl,rfl⟩;go_wp2;go_ret;exact⟨rfl,F1.out⟩
theorem zm4(l:List Ent)(s:ByteArray)(A:Option Addr)(c B:Nat)(w:World)(hr:rises (ltK Ent.key) l=true)(hl:l.length≤281474976710656)(hB:B≤w.heap.size)(h:z1g w B (.slice A l.length c) l):
  Calls prog 234 #[.slice A l.length c,.string s,.func (Fn.func 235) #[] #[]] w (z2n (z1k Ent.key l s) (z5e Ent.key l s) w):=by
 have HS:=hid h;have hlow:=z6j Ent.key l s;have HR:=hid hr;clear h hr;have eg:=z3z Tryz.func235 (by kernel_rfl) rfl;go_enter Tryz.func234,Tryz.ntmps234;go_wp2;go_loopg [9,10] l.length (fun g s9 s10 wr=>∃(lo hi:Nat),g=hi - lo∧s9=.int .i64 lo∧s10=.int .i64 hi∧lo≤z1k Ent.key l s∧z1k Ent.key l s≤hi∧hi≤l.length∧Fr [] w wr)
 case atStart=>exact⟨0,l.length,rfl,rfl,rfl,Nat.zero_le _,hlow,Nat.le_refl _,Fr.refl _ _⟩
 case round=>
  obtain⟨lo,hi,rfl,rfl,rfl,h1,h2,h3,hf⟩:=hrel;have HF:=hid hf;clear hf;by_cases hlt:lo < hi
  ·obtain⟨m,hm⟩:∃m,m=(lo+hi) / 2:=⟨_,rfl⟩;have hml:m < l.length:=by omega
   obtain⟨b,off,rfl,hb,hc,hmx,hat⟩:=HS.out.at_ (by omega);obtain⟨q,hq⟩:∃q,l[m]? = some q:=⟨_,List.getElem?_eq_getElem hml⟩;obtain⟨A1,A2,A3,c1,c2,c3,h7⟩:=hat m q hq;obtain⟨x0,x1,x2,x3,x4,x5,x6,-⟩:=h7.fr HF.out hb hB (by simp);have hmi:((lo:Int)+(hi:Int)) / 2=(m:Int):=by omega
   have hM:=hid hm
   have hnew:(z36 q.key s < 0→m < z1k Ent.key l s)∧(¬z36 q.key s < 0→z1k Ent.key l s≤m):=⟨fun h=>by
    rcases Nat.lt_or_ge m (z1k Ent.key l s) with h'|h'
    ·exact h'
    ·exact absurd h (ze9 Ent.key HR.out h' hq),fun h=>by
    rcases Nat.lt_or_ge m (z1k Ent.key l s) with h'|h'
    ·exact absurd (z6q Ent.key h' hq) h
    ·exact h'⟩
   have HN:=hid hnew;have FL:=hid (fun W b c d e f g=>zcd q.key s b c d e f g W);clear hat h7 hq hnew hm;generalize z36 q.key s=o at *;by_cases ho:o < 0
   ·have hn:=HN.out.1 ho;clear HN;go_wp2_with fail;refine(FL.out _ _ _ _ _ _ _).mono ?_;rintro e w2 ⟨rfl,f2⟩;clear hmi;go_wp2;go_roundg (hi - (m+1))
    case measure=>have:=hM.out;omega
    case rel=>exact⟨m+1,hi,rfl,by go_num,rfl,by omega,h2,h3,HF.out.trans f2⟩
   ·have hn:=HN.out.2 ho;clear HN;go_wp2_with fail;refine(FL.out _ _ _ _ _ _ _).mono ?_;rintro e w2 ⟨rfl,f2⟩;clear hmi;go_wp2;go_roundg (m - lo)
    case measure=>have:=hM.out;omega
    case rel=>exact⟨lo,m,rfl,rfl,rfl,h1,hn,by omega,HF.out.trans f2⟩
  ·obtain rfl:hi=lo:=by omega
   obtain⟨lw,hlw⟩:∃lw,lw=z1k Ent.key l s:=⟨_,rfl⟩;obtain rfl:hi=lw:=by omega
   have HL:=hid hlw;by_cases hn:hi < l.length
   ·obtain⟨b,off,rfl,hb,hc,hmx,hat⟩:=HS.out.at_ (by omega);obtain⟨q,hq⟩:∃q,l[hi]? = some q:=⟨_,List.getElem?_eq_getElem hn⟩;obtain⟨A1,A2,A3,c1,c2,c3,h7⟩:=hat hi q hq;obtain⟨x0,x1,x2,x3,x4,x5,x6,-⟩:=h7.fr HF.out hb hB (by simp);have FL:=hid (fun W b c d e f g=>zcd q.key s b c d e f g W);have HH:=hid (show z5e Ent.key l s=decide (z36 q.key s=0) from by unfold z5e;rw[←hlw,hq]);clear hat h7 hq hlw h1 h2;generalize z36 q.key s=o at *;by_cases ho:o=0
    ·subst ho;have HH2:=hid (HH.out.trans (decide_eq_true rfl));clear HH;go_wp2_with fail;refine(FL.out _ _ _ _ _ _ _).mono ?_;rintro e w2 ⟨rfl,f2⟩;go_wp2;go_ret2;refine⟨?_,HF.out.trans f2⟩;rw[←HL.out,HH2.out];rfl
    ·have q1:(o==0)=false:=by simpa using ho
     have HH2:=hid (HH.out.trans (decide_eq_false ho));clear ho HH;go_wp2_with fail;refine(FL.out _ _ _ _ _ _ _).mono ?_;rintro e w2 ⟨rfl,f2⟩;go_wp2;go_ret2;refine⟨?_,HF.out.trans f2⟩;rw[←HL.out,HH2.out];rfl
   ·have HH:=hid (show z5e Ent.key l s=false from by unfold z5e;rw[←hlw,List.getElem?_eq_none (by omega)]);clear h1 h2 hlw;go_wp2;go_ret2;refine⟨?_,HF.out⟩;rw[←HL.out,HH.out];rfl
theorem zc6(l:List Ent)(s:ByteArray)(A:Option Addr)(c B:Nat)(w:World)(hr:rises (ltK Ent.key) l=true)(hl:l.length≤281474976710656)(hB:B≤w.heap.size)(h:z1g w B (.slice A l.length c) l):
  Calls prog 183 #[.slice A l.length c,.string s] w (z2n (z1k Ent.key l s) (z5e Ent.key l s) w):=by
 have I:=hid (zm4 l s A c B w hr hl hB h);clear h;unfold z2n at I ⊢;go_enter Tryz.func183,Tryz.ntmps183;go_wp2_with fail;refine I.out.mono ?_;rintro e w1 ⟨rfl,f1⟩;go_wp2;go_ret2;exact⟨rfl,f1⟩
theorem z64:∀a b:List UInt8,Op.bytesLess a b=decide (Lib.compareBytes a b < 0)
 | [],[]=>rfl
 | [],y :: s=>rfl
 | x :: r,[]=>rfl
 | x :: r,y :: s=>by
  show(decide (x < y)||(x==y&&Op.bytesLess r s))=decide ((if x < y then -1 else if y < x then 1 else Lib.compareBytes r s) < (0:Int))
  rw[z64 r s];by_cases h1:x < y
  ·rw[if_pos h1];simp[h1]
  ·rw[if_neg h1];by_cases h2:y < x
   ·rw[if_pos h2];have hne:¬x=y:=by rintro rfl;exact UInt8.lt_irrefl _ h2
    simp[h1,hne]
   ·rw[if_neg h2]
    have e:x=y:=by
     apply UInt8.toNat_inj.1;rw[UInt8.lt_iff_toNat_lt] at h1 h2;omega
    subst e;simp[h1]
theorem zbj(a b:ByteArray):Op.bytesLess a.toList b.toList=decide (z36 a b < 0):=by
 rw[ByteArray.toList_eq,ByteArray.toList_eq,z64];rfl
theorem zkz{a b:ByteArray}(h:z36 a b < 0):Op.bytesLess b.toList a.toList=false∧(b.toList==a.toList)=false:=by
 have h2:=z88 a b;refine⟨by rw[zbj];exact decide_eq_false (by omega),?_⟩;refine neqB' ?_;rintro rfl;rw[z60] at h;exact absurd h (by decide)
def zox(g:Nat)(lb:Array Value)(l:List Slt)(p:Slt→Bool)(w:World):Prop:=
 ∀W (e:Slt) A1 c1 A2 c2 A3 c3,e∈l→Fr [] w W→Calls prog g (#[.agg #[.string e.key,.bool e.cold,.int .i64 e.item.kind,.string e.item.text,.slice A1 e.item.list.length c1,.slice A2 e.item.pairs.length c2,.slice A3 e.item.scores.length c3,.int .i64 e.seg,.int .i64 e.rcd,.int .i64 e.til]]++lb) W fun r w'=>r=.returned (.bool (p e))∧Fr [] W w'
def zp4(g:Nat)(lb:Array Value)(l:List (List ByteArray))(p:List ByteArray→Bool)(w:World):Prop:=
 ∀W (e:List ByteArray) A1 c1,e∈l→Fr [] w W→Calls prog g (#[.slice A1 e.length c1]++lb) W fun r w'=>r=.returned (.bool (p e))∧Fr [] W w'
theorem zke(g:Nat)(lb:Array Value)(eg:∀args w,(callFunc g args).run prog w=.ok (.enter g args) w)(p:Slt→Bool)(l:List Slt)(A:Option Addr)(c B:Nat)(w:World)(hp:zox g lb l p w)(hl:l.length≤281474976710656)(hB:B≤w.heap.size)(hsl:z3f w B (.slice A l.length c) l):
  Calls prog 110 #[.slice A l.length c,.func (Fn.func g) #[] lb] w fun e w'=>e=.returned (.int .i64 (z2w p l))∧Fr [] w w':=by
 have HS:=hid hsl;have HP:=hid hp;clear hsl hp;go_enter Tryz.func110,Tryz.ntmps110;go_wp2;go_loopg [5,8] l.length (fun g u i wr=>∃(k:Nat),g=l.length - k∧k≤l.length∧i=.int .i64 k∧(∀j t,j < k→l[j]? = some t→p t=false)∧Fr [] w wr)
 case atStart=>exact⟨0,rfl,Nat.zero_le _,rfl,fun j t hj=>absurd hj (Nat.not_lt_zero _),Fr.refl _ _⟩
 case round=>
  obtain⟨k,rfl,hk,rfl,hno,hf⟩:=hrel;by_cases hlt:k < l.length
  ·obtain⟨b,off,rfl,hb,hc,hm,hat⟩:=HS.out.at_ (by omega);obtain⟨s,hs⟩:∃s,l[k]? = some s:=⟨_,List.getElem?_eq_getElem hlt⟩;have hsm:=List.mem_of_getElem? hs;have HF:=hid hf;have F1:=hid (Fr.refl [] wr);obtain⟨A1,A2,A3,c1,c2,c3,h7⟩:=hat k s hs;obtain⟨x0,x1,x2,x3,x4,x5,x6,x7,x8,x9,-⟩:=h7.fr HF.out hb hB (by simp);clear h7;have L:=hid (fun W (hW:Fr [] wr W)=>(show Calls prog g (#[.agg #[.string s.key,.bool s.cold,.int .i64 s.item.kind,.string s.item.text,.slice A1 s.item.list.length c1,.slice A2 s.item.pairs.length c2,.slice A3 s.item.scores.length c3,.int .i64 s.seg,.int .i64 s.rcd,.int .i64 s.til]]++lb) W (fun e w'=>e=.returned (.bool (p s))∧Fr [] W w') from HP.out W s A1 c1 A2 c2 A3 c3 hsm (HF.out.trans hW)));clear hat;by_cases hq:p s=true
   ·have E:=hid (z1l hno hs hq);rw[hq] at L;clear hno hs hq hf hsm;go_wp2_with fail;refine(L.out _ F1.out).mono ?_;rintro e w1 ⟨rfl,h1⟩;go_wp2;go_ret;rw[E.out];exact⟨rfl,HF.out.trans h1⟩
   ·have hq':p s=false:=by simpa using hq
    rw[hq'] at L
    have N:=hid (fun j t (hj:j < k+1) (ht:l[j]? = some t)=>(show p t=false by
     rcases Nat.lt_or_ge j k with h|h
     ·exact hno j t h ht
     ·have e:j=k:=by omega
      subst e;rw[hs] at ht;cases ht;exact hq'))
    clear hno hs hq hq' hf hsm;go_wp2_with fail;refine(L.out _ F1.out).mono ?_;rintro e w1 ⟨rfl,h1⟩;go_wp2;go_roundg (l.length - (k+1))
    case measure=>omega
    case rel=>exact⟨k+1,rfl,by omega,rfl,N.out,HF.out.trans h1⟩
  ·have E:=hid (z1z (q:=p) (l:=l) (fun j t ht=>hno j t (by have:=(List.getElem?_eq_some_iff.1 ht).1;omega) ht));clear hno;go_wp2;go_ret;rw[E.out];exact⟨rfl,hf⟩
theorem zl8(g:Nat)(lb:Array Value)(eg:∀args w,(callFunc g args).run prog w=.ok (.enter g args) w)(p:Slt→Bool)(l:List Slt)(A:Option Addr)(c B:Nat)(w:World)(hp:zox g lb l p w)(hl:l.length≤281474976710656)(hB:B≤w.heap.size)(hsl:z3f w B (.slice A l.length c) l):
  Calls prog 78 #[.slice A l.length c,.func (Fn.func g) #[] lb] w fun e w'=>e=.returned (.bool (l.any p))∧Fr [] w w':=by
 have I:=hid (zke g lb eg p l A c B w hp hl hB hsl);have h:=z3t p l;clear hsl hp;generalize z2w p l=r at *;generalize l.any p=b at *;generalize l.length=n at *;cases b
 ·have hr:r < 0:=by simpa using h
  clear h;go_enter Tryz.func78,Tryz.ntmps78;go_wp2_with fail;refine I.out.mono ?_;rintro e w1 ⟨rfl,h1⟩;go_wp2;go_ret;exact⟨by simp <;> omega,h1⟩
 ·have hr:0≤r:=by simpa using h
  clear h;go_enter Tryz.func78,Tryz.ntmps78;go_wp2_with fail;refine I.out.mono ?_;rintro e w1 ⟨rfl,h1⟩;go_wp2;go_ret;exact⟨by simp <;> omega,h1⟩
theorem zm9(g:Nat)(lb:Array Value)(eg:∀args w,(callFunc g args).run prog w=.ok (.enter g args) w)(p:List ByteArray→Bool)(l:List (List ByteArray))(A:Option Addr)(c B:Nat)(w:World)(hp:zp4 g lb l p w)(hl:l.length≤281474976710656)(hB:B≤w.heap.size)(hsl:z2p w B (.slice A l.length c) l):
  Calls prog 80 #[.slice A l.length c,.func (Fn.func g) #[] lb] w fun e w'=>e=.returned (.int .i64 (z2w p l))∧Fr [] w w':=by
 have HS:=hid hsl;have HP:=hid hp;clear hsl hp;go_enter Tryz.func80,Tryz.ntmps80;go_wp2;go_loopg [5,8] l.length (fun g u i wr=>∃(k:Nat),g=l.length - k∧k≤l.length∧i=.int .i64 k∧(∀j t,j < k→l[j]? = some t→p t=false)∧Fr [] w wr)
 case atStart=>exact⟨0,rfl,Nat.zero_le _,rfl,fun j t hj=>absurd hj (Nat.not_lt_zero _),Fr.refl _ _⟩
 case round=>
  obtain⟨k,rfl,hk,rfl,hno,hf⟩:=hrel;by_cases hlt:k < l.length
  ·obtain⟨b,off,rfl,hb,hc,hm,hat⟩:=HS.out.at_ (by omega);obtain⟨s,hs⟩:∃s,l[k]? = some s:=⟨_,List.getElem?_eq_getElem hlt⟩;have hsm:=List.mem_of_getElem? hs;have HF:=hid hf;have F1:=hid (Fr.refl [] wr);obtain⟨A1,c1,x0,-⟩:=hat k s hs;have x0:=HF.out.cell x0 (by simp);have L:=hid (fun W (hW:Fr [] wr W)=>(show Calls prog g (#[.slice A1 s.length c1]++lb) W (fun e w'=>e=.returned (.bool (p s))∧Fr [] W w') from HP.out W s A1 c1 hsm (HF.out.trans hW)));clear hat;by_cases hq:p s=true
   ·have E:=hid (z1l hno hs hq);rw[hq] at L;clear hno hs hq hf hsm;go_wp2_with fail;refine(L.out _ F1.out).mono ?_;rintro e w1 ⟨rfl,h1⟩;go_wp2;go_ret;rw[E.out];exact⟨rfl,HF.out.trans h1⟩
   ·have hq':p s=false:=by simpa using hq
    rw[hq'] at L
    have N:=hid (fun j t (hj:j < k+1) (ht:l[j]? = some t)=>(show p t=false by
     rcases Nat.lt_or_ge j k with h|h
     ·exact hno j t h ht
     ·have e:j=k:=by omega
      subst e;rw[hs] at ht;cases ht;exact hq'))
    clear hno hs hq hq' hf hsm;go_wp2_with fail;refine(L.out _ F1.out).mono ?_;rintro e w1 ⟨rfl,h1⟩;go_wp2;go_roundg (l.length - (k+1))
    case measure=>omega
    case rel=>exact⟨k+1,rfl,by omega,rfl,N.out,HF.out.trans h1⟩
  ·have E:=hid (z1z (q:=p) (l:=l) (fun j t ht=>hno j t (by have:=(List.getElem?_eq_some_iff.1 ht).1;omega) ht));clear hno;go_wp2;go_ret;rw[E.out];exact⟨rfl,hf⟩
theorem zlc(g:Nat)(lb:Array Value)(eg:∀args w,(callFunc g args).run prog w=.ok (.enter g args) w)(p:List ByteArray→Bool)(l:List (List ByteArray))(A:Option Addr)(c B:Nat)(w:World)(hp:zp4 g lb l p w)(hl:l.length≤281474976710656)(hB:B≤w.heap.size)(hsl:z2p w B (.slice A l.length c) l):
  Calls prog 51 #[.slice A l.length c,.func (Fn.func g) #[] lb] w fun e w'=>e=.returned (.bool (l.any p))∧Fr [] w w':=by
 have I:=hid (zm9 g lb eg p l A c B w hp hl hB hsl);have h:=z3t p l;clear hsl hp;generalize z2w p l=r at *;generalize l.any p=b at *;generalize l.length=n at *;cases b
 ·have hr:r < 0:=by simpa using h
  clear h;go_enter Tryz.func51,Tryz.ntmps51;go_wp2_with fail;refine I.out.mono ?_;rintro e w1 ⟨rfl,h1⟩;go_wp2;go_ret;exact⟨by simp <;> omega,h1⟩
 ·have hr:0≤r:=by simpa using h
  clear h;go_enter Tryz.func51,Tryz.ntmps51;go_wp2_with fail;refine I.out.mono ?_;rintro e w1 ⟨rfl,h1⟩;go_wp2;go_ret;exact⟨by simp <;> omega,h1⟩
end Go.Proofs.YtmkhmejempcimaaGreatDoor
