/- Contracts; no condition but each theorem's own. -/
import Derived.Test.YtnmoajaelmimnaaGreatDoorSlY17
set_option linter.unusedVariables false
set_option linter.unusedSimpArgs false
set_option maxHeartbeats 8000000
set_option maxRecDepth 100000
namespace Go.Proofs.YtnmoajaelmimnaaGreatDoor
open Go.Proofs.Tryz
section
open Go.RowKit
theorem zde(e)(A1 A2 A3)(c1 c2 c3:Nat):∀u∈z9p e A1 c1 A2 c2 A3 c3,u.oneCell'=true:=fun u hu=>by
 simp[z9p] at hu;rcases hu with rfl|rfl|rfl|rfl|rfl|rfl|rfl <;> rfl
theorem z2f:9≠70∧97≠70∧102≠70:=by decide
theorem z2a.snoc{w':World}{base:Nat}{v':Value}{l:List Ent}{e:Ent}{cs:List Value}{rs:List (List Value)}(hl:rs.length=l.length)(h:∀(i:Nat) (e),l[i]? = some e→∃cs:List Value,rs[i]? = some cs∧z38 w' base cs e)(he:z38 w' base cs e)(ho:w'.ownsRow base 70 7 v' (l.length+1) (rs.flatten++cs)):z2a w' base v' (l++[e]):=by
 refine⟨rs++[cs],by simp[hl],fun i x a=>?_,by simpa using ho⟩;rcases Yc i l.length with h1|h1
 ·rw[Xu h1] at a;obtain⟨d,b,h3⟩:=h i x a;exact⟨d,by rw[Xu (by omega)];exact b,h3⟩
 ·have:i=l.length:=by have:=(Xe.1 a).1;simp at this;omega
  subst this;rw[Xq (Xb _),Ux] at a;simp at a;subst a;exact⟨cs,by rw[Xq (by omega),hl,Ux];rfl,he⟩
def OwnS(base:Nat)(l:List Ent)(w:World)(r:Ending)(w':World):Prop:=∃u,r=.returned u∧z2a w' base u l∧Fr [] w w'
theorem z5c(l)(v)(w:World)(B:Nat)(hs:∀e∈l,e.Small)(h24:∀e∈l,e.item.list.length≤1000000∧e.item.pairs.length≤1000000∧e.item.scores.length≤1000000)(hl:l.length≤1000000)(hB:B≤w.heap.size)(h:z1f w B v l):
  Calls prog 97 #[v] w (OwnS w.heap.size l w):=by
 obtain⟨i0,hi,hz0,hz1,hz2⟩:=info_parts zbu;obtain⟨A,c,rfl⟩:=h.form;have HV:=hid h;have HS:=hid hs;have V:=hid h24;clear h hs h24;go_enter func97,ntmps97;go_wp2;go_loopg [3,8] l.length (fun g o i wr=>∃(k:Nat),g=l.length - k∧k≤l.length∧i=.int .i64 k∧z2a wr w.heap.size o (l.take k)∧Fr [] w wr)
 case atStart=>exact⟨0,rfl,Xt _,rfl,by rw[Jd];exact z2a.nil _ _,Fr.refl _ _⟩
 case round=>
  obtain⟨k,rfl,hk,rfl,U,hf⟩:=hrel;have D:=hid hf;have HO:=hid U;have s:(l.take k).length=k:=by rw[Xp];omega
  obtain⟨Ao,co,R⟩:=U.form;rw[s] at R;subst R;clear hf U s;by_cases hlt:k < l.length
  ·obtain⟨b,off,rfl,hb,hc,a7,P⟩:=HV.o.at_ (by omega);obtain⟨e,S⟩:∃e,l[k]? = some e:=⟨_,Xa hlt⟩;obtain⟨T,A2,X,c1,c2,c3,h7⟩:=P k e S;have z:=Xj S;have P7:=hid (h7.fr D.o hb hB (by simp));obtain⟨x0,x1,x2,x3,x4,x5,x6,-⟩:=P7.o;have ET:=hid (show l.take (k+1)=l.take k++[e] from by rw[Xz,S];rfl);have LT:=hid (show(l.take k).length=k from by rw[Xp];omega);have V1:=hid (Whole.new wr 70 (yEl e T c1 A2 c2 X c3));have F1:=hid ((Fr.refl [] wr).alloc (.cells (yEa e T c1 A2 c2 X c3) 70));obtain⟨n1,n2,n3⟩:=V.o e z;have OW:=hid (za1 e.item _ _ B (HS.o e z).item n1 n2 n3 (Xd hB (Xd D.o.size F1.o.size)) ((P7.o.ent.fr F1.o (Xd hB D.o.size) (by simp)).item));clear P h7 S z n1 n2 n3;go_wp2_with fail;refine OW.o.mono ?_;rintro e2 w2 ⟨u,rfl,C,W⟩;have Q:=hid (V1.o.fr W (by simp));have G2:=hid (F1.o.trans W);have a1:=hid C;obtain⟨F,I,G,y,E,t,rfl⟩:=C.form;have a5:=Q.o.lt;clear C W x0 x1 x2 x3 x4 x5 x6;obtain⟨y0,y1,y2,y3,y4,y5,y6⟩:=seven Q.o;obtain⟨z0,z1,z2,z3,z4,z5,z6⟩:=zbi Q.o;obtain⟨f,n⟩:∃f,f=((((w2.setCell ⟨wr.heap.size,1,none⟩ (.int .i64 e.item.kind)).setCell ⟨wr.heap.size,2,none⟩ (.string e.item.text)).setCell ⟨wr.heap.size,3,none⟩ (.slice F e.item.list.length I)).setCell ⟨wr.heap.size,4,none⟩ (.slice G e.item.pairs.length y)).setCell ⟨wr.heap.size,5,none⟩ (.slice E e.item.scores.length t):=⟨_,rfl⟩
   have G3:=hid (show Fr [] wr f from by
    rw[n];exact((((G2.o.setCell (p:=⟨wr.heap.size,1,none⟩) (.inr (Xb _)) _).setCell (p:=⟨wr.heap.size,2,none⟩) (.inr (Xb _)) _).setCell (p:=⟨wr.heap.size,3,none⟩) (.inr (Xb _)) _).setCell (p:=⟨wr.heap.size,4,none⟩) (.inr (Xb _)) _).setCell (p:=⟨wr.heap.size,5,none⟩) (.inr (Xb _)) _)
   have V3:=hid (show Whole f wr.heap.size 70 (yEl e F I G y E t) from by
    rw[n];exact((((Q.o.set_ 1 _).set_ 2 _).set_ 3 _).set_ 4 _).set_ 5 _)
   have a3:=hid (show z38 f w.heap.size (z9p e F I G y E t) e from by
    rw[n];obtain⟨L1,L2,L3,R,o1,o2,o3⟩:=a1.o;cases R;have a:wr.heap.size < (wr.alloc (.cells (yEa e T c1 A2 c2 X c3) 70)).heap.size:=by simp
    have a6:=D.o.size;exact⟨_,_,_,_,_,_,rfl,z0i (z0d (z0d (z0d (z0d (z0d o1 a _) a _) a _) a _) a _) (by omega),z0i (z0d (z0d (z0d (z0d (z0d o2 a _) a _) a _) a _) a _) (by omega),z0i (z0d (z0d (z0d (z0d (z0d o3 a _) a _) a _) a _) a _) (by omega)⟩)
   have a4:=hid (HO.o.fr G3.o);have N:=hid n;clear n;go_upto_region 6 with fail;rw[←N.o];clear N y0 y1 y2 y3 y4 y5 y6 z0 z1 z2 z3 z4 z5 z6;obtain⟨y0,y1,y2,y3,y4,y5,y6⟩:=seven V3.o;obtain⟨rs,L,K,M⟩:=a4.o;have H:=hid (show f.ownsRow w.heap.size 70 7 (.slice Ao k co) k rs.flatten from by have:=M;rw[LT.o] at this;exact this);have a0:=hid L;have Z:=hid K;have a8:w.heap.size≤f.heap.size:=Xd D.o.size G3.o.size;have a2:=hid (z0l (World.ownsRow_lit (base:=f.heap.size) (e:=70) (size:=7) f (yEa e F I G y E t) 1 (Xb _) (by decide) rfl));clear L K M;go_wp2_with (at_builtin;refine z0c _ rfl _ _ 23 rfl w.heap.size 70 i0 _ 7 120 underlying23 hi hz0 hz1 hz2 rfl (by decide) _ _ _ rfl (H.o.alloc _) _ _ 1 _ rfl a2.o (zde e F G E I y t) ?c1 ?c2 ?c3 ?_)
   case c1=>unfold maxLen;omega
   case c2=>omega
   case c3=>first|omega|(simp;omega)
   intro v' w5 r m O;have Y:=hid r;have J:=hid m;clear r m O;have F5:=hid (D.o.trans (G3.o.alloc (.cells (yEa e F I G y E t) 70)))
   have HE:=hid (show z2a w5 w.heap.size v' (l.take (k+1)) from by
    rw[ET.o];have ff:=z1u J.o;have oa:=H.o.alloc (.cells (yEa e F I G y E t) 70);refine z2a.snoc a0.o (fun i x hx=>?_) ((a3.o.fr ((Fr.refl [] f).alloc _)).row oa z2f ff) (by rw[LT.o];exact Y.o);obtain⟨d,h3,h4⟩:=Z.o i x hx;exact⟨d,h3,(h4.fr ((Fr.refl [] f).alloc _)).row oa z2f ff⟩)
   have F6:=hid (F5.o.grown J.o (fun j hj=>.inr (H.o.lt j hj).1));go_wp2;go_roundg (l.length - (k+1))
   case measure=>omega
   case rel=>exact⟨k+1,rfl,by omega,by go_num,HE.o,F6.o⟩
  ·obtain rfl:k=l.length:=by omega
   rw[Ym] at HO;go_wp2;go_ret;exact⟨_,rfl,HO.o,D.o⟩
theorem two{w:World}{g t:Nat}{a b:Value}(hw:Whole w g t [a,b]):w.cell? ⟨g,0,none⟩=some a∧w.cell? ⟨g,1,none⟩=some b:=⟨hw.cell 0,hw.cell 1⟩
theorem zo1{w:World}{g t:Nat}{a b:Value}(hw:Whole w g t [a,b]):w.frozen? ⟨g,0,none⟩=false∧w.frozen? ⟨g,1,none⟩=false:=⟨hw.frozen 0,hw.frozen 1⟩
theorem zhj:∀ {ls:List YX},(∀l∈ls,l.length≤4)→ls.flatten.length≤4 * ls.length
 | [],_=>by simp
 | l :: ls,h=>by
  have h1:=h l (.head _);have h2:=zhj (ls:=ls) (fun x hx=>h x (.tail _ hx));rw[Ua,Xk,Xy];omega
theorem zgv{α:Type}{ls:List (List α)}{m:Nat}{l:List α}(h:ls[m]? = some l):(ls.take (m+1)).flatten=(ls.take m).flatten++l:=by rw[Xz,h];simp
theorem zm4(ls:List YX)(A)(c:Nat)(w:World)(B:Nat)(h8:ls.length≤8)(h4:∀l∈ls,l.length≤4)(hB:B≤w.heap.size)(h:z5g w B (.slice A ls.length c) ls):
  Calls prog 136 #[.slice A ls.length c] w (z8p 9 1 ls.flatten.length (z03 ls.flatten) w):=by
 obtain⟨i0,hi,hz0,hz1,hz2⟩:=info_parts z2y;have H:=hid h;have F:=hid h4
 have LE:=hid (fun m=>(show(ls.take m).flatten.length≤32 from by
  have h1:=zhj (ls:=ls.take m) (fun x U=>h4 x (Ud U));have h2:(ls.take m).length≤8:=by rw[Xp];omega
  omega))
 clear h h4;go_enter func136,ntmps136;go_wp2;go_loopg [3,11] ls.length (fun k s i wr=>∃(m:Nat),k=ls.length - m∧m≤ls.length∧i=.int .i64 m∧s=.int .i64 ((ls.take m).flatten.length:Nat)∧w=wr)
 case atStart=>exact⟨0,rfl,by omega,rfl,rfl,rfl⟩
 case round=>
  obtain⟨m,rfl,V,rfl,rfl,rfl⟩:=hrel;by_cases hlt:m < ls.length
  ·obtain⟨b,off,rfl,L,u,z,a⟩:=H.o.at_ (by omega);obtain⟨l,g⟩:∃l,ls[m]? = some l:=⟨_,Xa hlt⟩;obtain⟨O,c1,t,-⟩:=a m l g;have C:=F.o l (Xj g);have W:=LE.o m;have J:=hid (show(ls.take (m+1)).flatten.length=(ls.take m).flatten.length+l.length from by rw[zgv g,Xk]);clear a g;generalize (ls.take m).flatten.length=S at *;go_wp2;go_roundg (ls.length - (m+1))
   case measure=>omega
   case rel=>exact⟨m+1,rfl,by omega,by go_num,by rw[J.o];go_num,rfl⟩
  obtain rfl:m=ls.length:=by omega
  obtain⟨N,E⟩:∃N,N=ls.flatten.length:=⟨_,rfl⟩;have K:N≤32:=by have:=LE.o ls.length;rw[Ym] at this;omega
  rw[Ym,←E];have HN:=hid E;clear E;go_wp2_with fail;refine(zk4 N _ (by omega)).mono ?_;rintro e Z ⟨v,rfl,r,p⟩;have Q:=hid r;have M:=hid p;have hz:=p.size;obtain⟨Av,cv,rfl,-⟩:=z05 r;clear r p;go_wp2;go_loopg [6,27] ls.length (fun k v i wr=>∃(m:Nat),k=ls.length - m∧m≤ls.length∧i=.int .i64 m∧wr.ownsRow w.heap.size 9 1 v (ls.take m).flatten.length (z03 (ls.take m).flatten)∧Fr [] w wr)
  case atStart=>exact⟨0,rfl,by omega,rfl,Q.o,M.o⟩
  case round=>
  obtain⟨m,rfl,V,rfl,r,p⟩:=hrel;have R:=p.size;have n:=hid p;have j:=hid r;obtain⟨Am,cm,rfl,-⟩:=z05 r;clear r p;by_cases hlt:m < ls.length
  ·obtain⟨b,off,rfl,L,u,z,a⟩:=H.o.at_ (by omega);obtain⟨l,g⟩:∃l,ls[m]? = some l:=⟨_,Xa hlt⟩;obtain⟨O,c1,t,G⟩:=a m l g;have C:=F.o l (Xj g);have W:=LE.o m;have I:=hid (zgv g);have Y:=n.o.cell t (by simp);have X:=hid (G.fr n.o hB (by simp));clear a g t G;generalize (ls.take m).flatten=T at *;go_wp2_with (at_builtin;refine z0c _ rfl _ _ 24 rfl w.heap.size 9 i0 _ 1 16 underlying24 hi hz0 hz1 hz2 rfl (by decide) _ _ _ rfl j.o B _ l.length (z03 l) rfl X.o (z2z l) ?c1 ?c2 ?c3 ?_)
   case c1=>unfold maxLen;omega
   case c2=>omega
   case c3=>omega
   intro v' w2 d f a;have y:=hid d;have D:=hid (n.o.grown f (fun k P=>.inr (j.o.lt k P).1));clear d f a Y;go_wp2;go_roundg (ls.length - (m+1))
   case measure=>omega
   case rel=>exact⟨m+1,rfl,by omega,by go_num,by rw[I.o,Xk,z36];exact y.o,D.o⟩
  obtain rfl:m=ls.length:=by omega
  rw[Ym] at j;go_wp2;go_ret;exact⟨_,rfl,by rw[Ym];exact j.o,n.o⟩
def zbd(s:Sto):Int:=if z8h s=true then 2 else zi3 s.segs.flatten
theorem q0m(A)(n c:Nat)(W)(hn:n≤281474976710656):Calls prog 135 (#[.slice A n c]++#[]) W fun e w'=>e=.returned (.bool (decide (4 < n)))∧Fr [] W w':=by
 by_cases h:4 < n
 ·have q:(n:Int) > 4:=by omega
  rw[Xi h];clear h;go_enter func135,ntmps135;go_wp2;go_ret;exact⟨rfl,Fr.refl _ _⟩
 ·have q:¬(n:Int) > 4:=by omega
  rw[Xl h];clear h;go_enter func135,ntmps135;go_wp2;go_ret;exact⟨rfl,Fr.refl _ _⟩
theorem zwf{l:YX}{k:Nat}{s:YY}(h:l[k]? = some s):zi3 (l.drop k)=if z1n s≠0 then z1n s else zi3 (l.drop (k+1)):=by
 rw[zjl h];rfl
theorem znk(s:Sto)(v)(w:World)(B:Nat)(hs:s.Small)(hB:B≤w.heap.size)(h:z5p w B v s):
  Calls prog 90 #[v] w fun e w'=>e=.returned (.int .i64 (zbd s))∧Fr [] w w':=by
 obtain⟨a,b,rfl,Y,M⟩:=h;obtain⟨J,c1,rfl⟩:=Y.form;obtain⟨A,c2,rfl⟩:=M.form;have x:=hid ((Fr.refl [] w).alloc (.cells #[.slice J s.slots.length c1,.slice A s.segs.length c2] 42));have W1:=hid (Whole.new w 42 [.slice J s.slots.length c1,.slice A s.segs.length c2]);obtain⟨K,R⟩:=two W1.o;have a2:=hs.le;have F:=hs.sle;have Z:=hid (M.fr x.o hB (by simp));have D:B≤(w.alloc (.cells #[.slice J s.slots.length c1,.slice A s.segs.length c2] 42)).heap.size:=Xd hB x.o.size;have p:=hid D;have HS:=hid hs.segs;have d:z8h s=(decide (16 < s.slots.length)||decide (8 < s.segs.length)||s.segs.any (fun l=>decide (4 < l.length))):=rfl
 have n:zbd s=if z8h s=true then 2 else zi3 s.segs.flatten:=rfl
 clear Y M hs D;by_cases h16:16 < s.slots.length
 ·have E:zbd s=2:=by rw[n,d,Xi h16];rfl
  have q:(s.slots.length:Int) > 16:=by omega
  rw[E];clear E n d h16;go_enter func90,ntmps90;go_wp2;go_ret;exact⟨rfl,x.o⟩
 have q1:¬(s.slots.length:Int) > 16:=by omega
 rw[Xl h16,Kb] at d;by_cases h8:8 < s.segs.length
 ·have E:zbd s=2:=by rw[n,d,Xi h8];rfl
  have q:(s.segs.length:Int) > 8:=by omega
  rw[E];clear E n d h16 h8;go_enter func90,ntmps90;go_wp2;go_ret;exact⟨rfl,x.o⟩
 have q2:¬(s.segs.length:Int) > 8:=by omega
 rw[Xl h8,Kb] at d;have G:=hid (zyh 135 #[] (z1b func135 (by kernel_rfl) rfl) (fun l=>decide (4 < l.length)) s.segs A c2 B _ (fun W e A3 c3 he O=>q0m A3 e.length c3 W (HS.o e he).1) F p.o Z.o);by_cases h4:s.segs.any (fun l=>decide (4 < l.length))=true
 ·have E:zbd s=2:=by rw[n,d,h4];rfl
  rw[h4] at G;rw[E];clear E n d h16 h8 h4;go_enter func90,ntmps90;go_wp2_with fail;refine G.o.mono ?_;rintro e2 w2 ⟨rfl,y⟩;go_wp2;go_ret;exact⟨rfl,x.o.trans y⟩
 have f:s.segs.any (fun l=>decide (4 < l.length))=false:=by simpa using h4
 have E:zbd s=zi3 s.segs.flatten:=by rw[n,d,f];rfl
 have X:=hid (show ∀l∈s.segs,l.length≤4 from fun l Q=>by
  have:=Ue.1 f l Q;simp at this;omega)
 rw[f] at G;rw[E]
 have HL:=hid (show ∀t∈s.segs.flatten,t.size≤281474976710656 from fun t m=>by
  obtain⟨l,Q,m⟩:=Ka.1 m;exact(HS.o l Q).2 t m)
 have CN:=hid (fun W (O:Fr [] (w.alloc (.cells #[.slice J s.slots.length c1,.slice A s.segs.length c2] 42)) W)=>zm4 s.segs A c2 W B (by omega) X.o (Xd p.o O.size) (Z.o.fr O p.o (by simp)));have a1:s.segs.flatten.length≤32:=by have:=zhj X.o;omega
 generalize s.segs.flatten=L at *;clear E n d h16 h8 h4 f;go_enter func90,ntmps90;go_wp2_with fail;refine G.o.mono ?_;rintro e2 w2 ⟨rfl,y⟩;have W2:=hid (W1.o.fr y (by simp));have F2:=hid (x.o.trans y);have H:=hid (CN.o _ y);clear y K R CN G;obtain⟨K,R⟩:=two W2.o;go_wp2_with fail;refine H.o.mono ?_;rintro e3 w3 ⟨u,rfl,P,f3⟩;have F3:=hid (F2.o.trans f3);have SO:=hid (z0l P);obtain⟨U,cu,rfl,-⟩:=z05 P;clear f3 P K R H;go_wp2;go_loopg [26] L.length (fun g i wr=>∃(k:Nat),g=L.length - k∧k≤L.length∧i=.int .i64 k∧Hid (zi3 L=zi3 (L.drop k))∧Fr [] w3 wr)
 case atStart=>exact⟨0,rfl,Xt _,rfl,hid rfl,Fr.refl _ _⟩
 case round=>
  obtain⟨k,rfl,hk,rfl,T,hf⟩:=hrel;have N:=hid hf;clear hf;by_cases hlt:k < L.length
  ·obtain⟨b,off,rfl,hb,hc,a0,C⟩:=SO.o.at_ (by omega);obtain⟨t,m⟩:∃t,L[k]? = some t:=⟨_,Xa hlt⟩;have y0:=N.o.cell (C k _ (z0x _ _ _ m)) (by simp);have I:=hid (T.o.trans (zwf m));have S:=hid (fun W=>zge t W (HL.o t (Xj m)));unfold zlw at S;clear C m T;by_cases h0:z1n t=0;have j:=hid trivial
   all_goals
    first
    | (guard_hyp j
       rw[h0] at S;have NX:=hid (show zi3 L=zi3 (L.drop (k+1)) from by rw[I.o,Xc (by simpa using h0)]);clear I h0)
    | (have E:=hid (show zi3 L=z1n t from by rw[I.o,Xf h0])
       have q:(z1n t != 0)=true:=by simpa using h0
       clear I h0;generalize z1n t=r at *)
    go_wp2_with fail;refine(S.o _).mono ?_;rintro e4 w4 ⟨z,rfl,hz,f4⟩;obtain⟨P1,p1,P2,p2,P3,p3,rfl⟩:=hz.form;have V:=hid (N.o.trans (f4.alloc (.cells #[.int .i64 (z0m t).kind,.string (z0m t).text,.slice P1 (z0m t).list.length p1,.slice P2 (z0m t).pairs.length p2,.slice P3 (z0m t).scores.length p3] 68)));clear hz f4 y0;go_wp2
    first
    | (guard_hyp j
       go_roundg (L.length - (k+1))
       case measure=>omega
       case rel=>exact⟨k+1,rfl,by omega,by go_num,NX,V.o⟩)
    | (go_ret
       rw[E.o];exact⟨rfl,F3.o.trans V.o⟩)
  ·obtain rfl:k=L.length:=by omega
   have E:=hid (show zi3 L=0 from by rw[T.o,Jc];rfl);go_wp2;go_ret;rw[E.o];exact⟨rfl,F3.o.trans N.o⟩
theorem zx4(ss:List YX)(u:Value)(A2)(c2:Nat)(a b:Int)(w:World)(B:Nat)(hs:∀l∈ss,l.length≤281474976710656)(hl:ss.length≤281474976710656)(hu:u.oneCell'=true)(ha:-9223372036854775808≤a∧a≤9223372036854775807)(hb:-9223372036854775808≤b∧b≤9223372036854775807)(hB:B≤w.heap.size)(h:z5g w B (.slice A2 ss.length c2) ss):
  Calls prog 139 #[.agg #[u,.slice A2 ss.length c2],.agg #[.int .i64 a,.int .i64 b]] w fun e w'=>e=.returned (.bool (z2w ss a b))∧Fr [] w w':=by
 have f:=hid (((Fr.refl [] w).alloc (.cells #[u,.slice A2 ss.length c2] 42)).alloc (.cells #[.int .i64 a,.int .i64 b] 122));have C:=hid ((Whole.new w 42 [u,.slice A2 ss.length c2]).alloc (.cells #[.int .i64 a,.int .i64 b] 122));have z:=hid (Whole.new (w.alloc (.cells #[u,.slice A2 ss.length c2] 42)) 122 [.int .i64 a,.int .i64 b]);obtain⟨E,L⟩:=two C.o;obtain⟨K,G⟩:=two z.o;have k:z2w ss a b=(decide (0≤a)&&decide (a < ss.length)&&decide (0≤b)&&decide (b < (ss.getD a.toNat []).length)):=rfl;have D:=hid h;clear h;by_cases h1:0≤a
 ·by_cases h2:a < ss.length
  ·by_cases h3:0≤b
   ·obtain⟨i,rfl⟩:∃i:Nat,a=i:=⟨a.toNat,by omega⟩;obtain⟨l,j⟩:∃l,ss[i]? = some l:=⟨_,Xa (show i < ss.length by omega)⟩;have y:=hs l (Xj j);obtain⟨g,off,rfl,F,J,r,m⟩:=D.o.at_ (by omega);obtain⟨H,c1,t,-⟩:=m i l j;have I:=f.o.cell t (by simp)
    have d:z2w ss i b=decide (b < l.length):=by
     have e:ss.getD (i:Int).toNat []=l:=by rw[Ur,Xs,j];rfl
     rw[k,Xi h1,Xi h2,Xi h3];simp only[Vk,e]
    rw[d];have p:decide (0≤(i:Int))=true:=Xi h1;have x:decide ((i:Int) < (ss.length:Int))=true:=Xi h2;have A:decide (0≤b)=true:=Xi h3;unfold maxLen at r;clear k d m t j;by_cases h4:b < l.length;have n:=hid trivial
    all_goals
     first
     | (guard_hyp n
        have s:decide (b < (l.length:Int))=true:=Xi h4)
     | (have s:decide (b < (l.length:Int))=false:=Xl h4)
     rw[s];go_enter func139,ntmps139;go_wp2;go_quiet (fail);go_wp2;go_ret;exact⟨rfl,by first|exact f.o|exact f.o.drewN _⟩
   ·have d:z2w ss a b=false:=by rw[k,Xl h3];simp
    rw[d];have p:decide (0≤a)=true:=Xi h1;have x:decide (a < (ss.length:Int))=true:=Xi h2;have A:decide (0≤b)=false:=Xl h3;clear k d;go_enter func139,ntmps139;go_wp2;go_quiet (fail);go_wp2;go_ret;exact⟨rfl,by first|exact f.o|exact f.o.drewN _⟩
  ·have d:z2w ss a b=false:=by rw[k,Xl h2];simp
   rw[d];have p:decide (0≤a)=true:=Xi h1;have x:decide (a < (ss.length:Int))=false:=Xl h2;clear k d;go_enter func139,ntmps139;go_wp2;go_quiet (fail);go_wp2;go_ret;exact⟨rfl,by first|exact f.o|exact f.o.drewN _⟩
 ·have d:z2w ss a b=false:=by rw[k,Xl h1];simp
  rw[d];have p:decide (0≤a)=false:=Xl h1;clear k d;go_enter func139,ntmps139;go_wp2;go_quiet (fail);go_wp2;go_ret;exact⟨rfl,by first|exact f.o|exact f.o.drewN _⟩
end
section
variable {α:Type} (key:α→YY)
def zuj(l:List α)(f:YY):Option α:=l.find? fun q=>decide (key q=f)
theorem zhk{l:List α}{f:YY}{q:α}(h:zuj key l f=some q):q∈l∧key q=f:=⟨Jl h,by have:=Kd h;simpa using this⟩
theorem zul{l:List α}{f:YY}(h:zuj key l f=none):∀q∈l,key q≠f:=fun q hq=>by
 have:=Jf.1 h q hq;simpa using this
theorem zz0{l:List α}{f:YY}(hr:rises (ltK key) l=true)(h:z4o key l f=true):l[z1e key l f]? = zuj key l f∧(zuj key l f).isSome=true:=by
 obtain⟨q,j,m⟩:=(z2s key).1 h;have g:=Xj j;cases hg:zuj key l f with
 | none=>exact absurd m (zul key hg q g)
 | some q'=>
  obtain⟨a,b⟩:=zhk key hg;obtain⟨k,d⟩:=Yd a;have e:=zgi key hr d;rw[b] at e;rw[e,d];exact⟨rfl,rfl⟩
theorem zuk{l:List α}{f:YY}(hr:rises (ltK key) l=true)(h:z4o key l f=false):zuj key l f=none:=by
 cases hg:zuj key l f with
 | none=>rfl
 | some q'=>
  obtain⟨b,a⟩:=zhk key hg;obtain⟨k,d⟩:=Yd b;have:=ze4 key hr d;rw[a,h] at this;cases this
theorem zby:∀(l:List α) {xs:List α},rises (ltK key) xs=true→rises (ltK key) (l.foldl (zd3 key) xs)=true
 | [],_,h=>h
 | p :: r,_,h=>zby r (zgr key p h)
theorem zdf:∀(l:List α) {xs:List α} {q:α},q∈l.foldl (zd3 key) xs→q∈l∨q∈xs
 | [],_,_,h=>.inr h
 | p :: r,_,_,h=>by
  rcases zdf r h with h|h
  ·exact .inl (.tail _ h)
  ·rcases q0k key h with rfl|h
   ·exact .inl (.head _)
   ·exact .inr h
theorem q0j(l:List α)(p:α):l.length≤(zd3 key l p).length∧(zd3 key l p).length≤l.length+1:=by
 rw[zng];split <;> omega
theorem zp1:∀(l xs:List α),(l.foldl (zd3 key) xs).length≤xs.length+l.length∧xs.length≤(l.foldl (zd3 key) xs).length
 | [],xs=>⟨Xb _,Xb _⟩
 | p :: r,xs=>by
  have h1:=zp1 r (zd3 key xs p);have h2:=q0j key xs p;rw[List.foldl_cons,Xy];omega
end
def zwb(x:Itm)(l:List (YY×YY)):List (YY×YY):=l.foldl (zd3 Prod.fst) x.pairs
def z1y(x:Itm)(l:List (YY×YY)):Int:=if z02 4 x≠0 then z02 4 x else if l.length=0 then 1 else if l.any z5e=true then 2 else 0
def z23(x:Itm)(l:List (YY×YY)):Int:=if z1y x l≠0 then z1y x l else if 24 < (zwb x l).length then 2 else 0
def zsf(x:Itm)(l:List (YY×YY)):Itm:=if z23 x l=0 then ofP (zwb x l) else z2q 0
def q1t(x:Itm)(l:List (YY×YY)):Int:=if z23 x l=0 then ((zwb x l).length:Int) - x.pairs.length else 0
def z5z(x:Itm)(f:YY):Int:=if z02 4 x≠0 then z02 4 x else match zuj Prod.fst x.pairs f with|some _=>0|none=>5
def zxf(x:Itm)(f:YY):YY:=if z02 4 x≠0 then ⟨#[]⟩ else match zuj Prod.fst x.pairs f with|some q=>q.2|none=>⟨#[]⟩
def zbt(x:Itm)(l:YX):List (YY×YY):=x.pairs.filter fun p=>!(l.any fun y=>decide (y=p.1))
def zd0(x:Itm)(l:YX):Itm:=if z02 4 x=0 then ofP (zbt x l) else z2q 0
def zjk(x:Itm)(l:YX):Int:=if z02 4 x=0 then (x.pairs.length:Int) - (zbt x l).length else 0
theorem z9e{x:Itm}(h:z02 4 x=0):rises (ltK Prod.fst) x.pairs=true:=by
 have b:=z1m h;rcases b.kind with h0|h4
 ·have d:=b.none h0;unfold many at d;have:x.pairs=[]:=Xo (by omega);rw[this];rfl
 ·have a:=b.some (by omega);have f:=b.bare;unfold z0a at a;rw[Xc (by omega),Xc (by rw[f];decide),Xc (by omega)] at a;by_cases d:many x=0
  ·rw[Xf d] at a;cases a
  ·rw[Xc d] at a;by_cases h2:24 < many x∨zax x=true
   ·rw[Xf h2] at a;cases a
   ·rw[Xc h2] at a;by_cases h3:(x.kind=3∧rises ltS x.list=false)∨(x.kind=4∧rises ltP x.pairs=false)
    ·rw[Xf h3] at a;cases a
    ·have:¬rises ltP x.pairs=false:=fun e=>h3 (.inr ⟨h4,e⟩);have:rises ltP x.pairs=true:=by simpa using this
     exact this
theorem zb1{x:Itm}(h:z02 4 x=0):x.pairs.length≤24∧∀p∈x.pairs,p.1.size≤60∧p.2.size≤60:=by
 have a:=z1m h;have:=a.le24;unfold many at this;exact⟨by omega,a.fields⟩
theorem zhw{l:List (YY×YY)}(h:¬l.any z5e=true):∀p∈l,p.1.size≤60∧p.2.size≤60:=by
 intro p a;rw[Bool.not_eq_true,Ue] at h;have:=h p a;unfold z5e at this;simp at this;omega
section
open Go.RowKit
theorem zih{x:Itm}(h:z02 3 x=0):rises ltS x.list=true∧x.list.length≤24:=by
 have k:=z1m h;have b:=k.le24;refine⟨?_,by unfold many at b;omega⟩;by_cases h0:x.kind=0
 ·have:=k.none h0;unfold many at this;rw[Xo (show x.list.length=0 by omega)];rfl
 ·have d:x.kind=3:=by
   rcases k.kind with e|e
   ·exact absurd e h0
   ·exact e
  have a:=k.some h0;unfold z0a at a;rw[d] at a;rw[Xc (by decide)] at a;split at a
  ·cases a
  ·rw[Xc (by decide)] at a;split at a
   ·cases a
   ·split at a
    ·cases a
    ·split at a
     ·cases a
     ·rename_i hn;rcases hr:rises ltS x.list with _|_
      ·exact absurd (.inl ⟨rfl,hr⟩) hn
      ·rfl
theorem z9f(x:Itm)(v)(w:World)(B:Nat)(hs:x.Small)(hB:B≤w.heap.size)(h:z0p w B v x):
  Calls prog 265 #[v] w fun e w'=>e=.returned (.int .i64 (z02 3 x))∧Fr [] w w':=by
 have M:=hid (fun W (hf:Fr [] w W)=>zj0 x 3 v W B hs (Xd hB hf.size) (h.fr hf hB (by simp)));obtain⟨b,c1,g,c2,d,j,rfl,m,l,h3⟩:=h;have a:Fr [] w (w.alloc (.cells (yIa x b c1 g c2 d j) 68)):=(Fr.refl [] w).alloc _;go_enter func265,ntmps265;go_wp2_with fail;refine(M.o _ a).mono ?_;rintro e k ⟨rfl,f⟩;go_wp2;go_ret;exact⟨rfl,a.trans f⟩
theorem zp3{S:List Nat}{w wr:World}{o:Nat}(h:Fr S w wr)(ho:w.heap.size≤o)(a b c d e):Fr S w (set5 wr o a b c d e):=
 ((((h.setCell (p:=⟨o,0,none⟩) (.inr ho) _).setCell (p:=⟨o,1,none⟩) (.inr ho) _).setCell (p:=⟨o,2,none⟩) (.inr ho) _).setCell (p:=⟨o,3,none⟩) (.inr ho) _).setCell (p:=⟨o,4,none⟩) (.inr ho) _
def zsl(y:Itm)(base:Nat)(v:Value)(w:World)(e:Ending)(w':World):Prop:=∃u,e=.returned u∧z0k w' base u y∧Fr (z1w v) w w'
theorem zle(l:YX)(base:Nat)(v)(w:World)(hl:l.length≤281474976710656)(ht:∀s∈l,s.size≤281474976710656)(hb:base≤w.heap.size)(h:w.ownsRow base 9 1 v l.length (z03 l)):
  Calls prog 266 #[v] w (zsl (ofK 3 (z9u l)) base v w):=by
 have X:=zbh l;have z:∀s∈z9u l,s.size≤281474976710656:=fun s hs=>ht s (z9h.1 hs);have p:(zd1 3 (z9u l)).Small:=zkc (by decide) (by omega) z;have K:=hid ((Fr.refl [] w).alloc (.cells yIza 68));have Y:=hid (Whole.new w 68 yIzl);have Z:=hid (z08 h K.o (by simp))
 have g:∀k,k∈z1w v→k < w.heap.size:=fun k a=>by
  unfold z1w at a;split at a
  ·simp at a;subst a;exact(h.lt _ rfl).2
  ·cases a
 have j:=hid g;clear h g;go_enter func266,ntmps266;go_wp2_with fail;refine(zlg l base v _ hl Z.o).mono ?_;rintro e V ⟨rfl,n,P⟩;have A:=z1u P;have F1:=hid ((K.o.up (T:=z1w v)).step A (fun k a=>.inl a));have B1:=hid (Y.o.fr A (fun G=>by have:=j.o _ G;omega));have D:=hid (show V.ownsRow base 9 1 v (z8n l).length (z03 (z8n l)) from by rw[z48];exact n);clear n P A;go_wp2_with fail;refine(zte (z8n l) base v _ (by rw[z48];exact hl) D.o).mono ?_;rintro e f ⟨v2,rfl,u,L,y⟩;have F:=z1u L;have J:=hid (F1.o.step F (fun k a=>.inl a));have B2:=hid (B1.o.fr F (fun G=>by have:=j.o _ G;omega));have d:=hid (show f.ownsRow base 9 1 v2 (z9u l).length (z03 (z9u l)) from u);obtain⟨t,c2,rfl,-⟩:=z05 d.o;clear u L F y;have m:z0p f f.heap.size (.agg #[.int .i64 3,.string ⟨#[]⟩,.slice t (z9u l).length c2,.slice none 0 0,.slice none 0 0]) (zd1 3 (z9u l)):=⟨t,c2,none,0,none,0,rfl,z0l d.o,Sl.nil _ _ _,Sl.nil _ _ _⟩;have O:=hid (zpk (zd1 3 (z9u l)) _ f f.heap.size p (Xb _) m (show(3:Int)≠1 by decide));clear m p;have W:base≤f.heap.size:=Xd hb J.o.size
 have I:=hid (show ofV (.agg #[.int .i64 3,.string ⟨#[]⟩,.slice t (z9u l).length c2,.slice none 0 0,.slice none 0 0]) (zd1 3 (z9u l))=if (z9u l).length=0 then .agg yIza else .agg #[.int .i64 3,.string ⟨#[]⟩,.slice t (z9u l).length c2,.slice none 0 0,.slice none 0 0] from by
  unfold ofV;rw[show many (zd1 3 (z9u l))=(z9u l).length from by show(z9u l).length+0+0=(z9u l).length;omega])
 have x:=hid (show ofK 3 (z9u l)=if (z9u l).length=0 then z2q 0 else zd1 3 (z9u l) from rfl);rw[I.o] at O;clear I;generalize z9u l=r at *;by_cases h0:r.length=0;have b:=hid trivial
 all_goals
  first
  | (guard_hyp b
     rw[Xf h0] at O;have E:=hid (x.o.trans (Xf h0)))
  | (rw[Xc h0] at O
     have E:=hid (x.o.trans (Xc h0)))
  clear h0 x;go_wp2_with fail;refine O.o.mono ?_;rintro e w3 ⟨rfl,H⟩;have U:=hid (J.o.step (T:=[]) H (fun k a=>by cases a));have C:=hid (B2.o.fr H (by simp))
  first
  | (guard_hyp b
     skip)
  | (have B:=hid (z08 d.o H (by simp)))
  obtain⟨Q,R,S,M,N⟩:=five C.o;obtain⟨b0,b2,b3,b4,b5⟩:=z11 C.o;go_wp2
  first
  | (guard_hyp b
     refine Xg (v:=.agg yIza) (by simp[results,results266,go_sem,Q,R,S,M,N]) rfl ?_;exact⟨_,rfl,by rw[E.o];exact z0k.nothing _ _,zp3 U.o (Xb _) _ _ _ _ _⟩)
  | (refine Xg (v:=.agg #[.int .i64 3,.string ⟨#[]⟩,.slice t r.length c2,.slice none 0 0,.slice none 0 0]) (by simp[results,results266,go_sem,Q,R,S,M,N]) rfl ?_
     exact⟨_,rfl,by rw[E.o];exact⟨_,_,_,rfl,zdi B.o C.o (by decide) _ _ _ _ _,⟨rfl,.inl ⟨rfl,rfl⟩⟩,⟨rfl,.inl ⟨rfl,rfl⟩⟩⟩,zp3 U.o (Xb _) _ _ _ _ _⟩)
theorem zcu(x:Itm)(v)(s:YY)(w:World)(B:Nat)(hs:x.Small)(hB:B≤w.heap.size)(h:z0p w B v x):
  Calls prog 217 #[v,.string s] w fun e w'=>e=.returned (.tuple #[.bool (decide (z02 3 x=0)&&z7m x.list s),.int .i64 (z02 3 x)])∧Fr [] w w':=by
 have j:=hid (fun W (hf:Fr [] w W)=>z9f x v W B hs (Xd hB hf.size) (h.fr hf hB (by simp)));obtain⟨f,c1,C,c2,A,y,rfl,n,E,h3⟩:=h;have H:=hid n;have d:Fr [] w (w.alloc (.cells (yIa x f c1 C c2 A y) 68)):=(Fr.refl [] w).alloc _;have u:=hid (Whole.new w 68 (yIl x f c1 C c2 A y));obtain⟨t,p,k,l,z⟩:=five u.o;have g:=hs.list;clear n E h3 hs;by_cases ha:z02 3 x=0
 ·have G:=hid (fun W (hf:Fr [] w W)=>zgt x.list s f c1 B W (zih ha).1 g (Xd hB hf.size) (H.o.fr hf hB (by simp)));rw[ha] at j ⊢;rw[Xi rfl,Vk];clear ha;generalize z7m x.list s=b at *;go_enter func217,ntmps217;go_wp2_with fail;refine(j.o _ d).mono ?_;rintro e D ⟨rfl,a⟩;have m:=d.trans a;have F:=hid (u.o.fr a (by simp));clear t p k l z;obtain⟨t,p,k,l,z⟩:=five F.o;go_wp2_with fail;refine(G.o _ m).mono ?_;rintro e J ⟨rfl,I⟩;go_wp2;go_ret2;exact⟨rfl,m.trans I⟩
 ·have K:(z02 3 x != 0)=true:=by simpa using ha
  rw[Xl ha,Uz];clear ha;generalize z02 3 x=r at *;go_enter func217,ntmps217;go_wp2_with fail;refine(j.o _ d).mono ?_;rintro e D ⟨rfl,a⟩;go_wp2;go_ret2;exact⟨rfl,d.trans a⟩
theorem q0p(x:YY)(l:YX)(A)(c g B:Nat)(w:World)(hl:l.length≤281474976710656)(hB:B≤w.heap.size)(h:Sl w B 1 (.slice A l.length c) l.length (z03 l))(hg:w.cell? ⟨g,0,none⟩=some (.slice A l.length c)):
  Calls prog 267 (#[.string x]++#[.pointer (some ⟨g,0,none⟩)]) w fun e w'=>e=.returned (.bool (z7m l x))∧Fr [] w w':=by
 have d:=hid (z7i l x A c B w hl hB h);have a:=hid (show(l.any fun y=>decide (y=x))=z7m l x from rfl);rw[a.o] at d;generalize z7m l x=b at *;clear h a;go_enter func267,ntmps267;go_wp2_with fail;refine d.o.mono ?_;rintro e f ⟨rfl,rfl⟩;go_wp2;go_ret;exact⟨rfl,Fr.refl _ _⟩
theorem zwh(l:YX)(A)(c g D:Nat)(w:World)(hl:l.length≤281474976710656)(hD:D≤w.heap.size)(h:Sl w D 1 (.slice A l.length c) l.length (z03 l))(hc:w.cell? ⟨g,0,none⟩=some (.slice A l.length c))(hg:g < D):
  zm0 267 #[.pointer (some ⟨g,0,none⟩)] (fun x=>z7m l x) D w:=
 fun W x hW=>q0p x l A c g D W hl (Xd hD hW.size) (zwu h hW (Xb _)) (z5j hW hc hg (by simp))
end
end Go.Proofs.YtnmoajaelmimnaaGreatDoor
