/- Contracts; no condition but each theorem's own. -/
import Derived.Test.YtnmoajaelmimnaaGreatDoorSlY18
import Derived.Test.YtnmoajaelmimnaaGreatDoorSlY28
set_option linter.unusedVariables false
set_option linter.unusedSimpArgs false
set_option maxHeartbeats 8000000
set_option maxRecDepth 100000
namespace Go.Proofs.YtnmoajaelmimnaaGreatDoor
open Go.Proofs.Tryz
section
open Go.RowKit
theorem ChD.go{g B0 bb:Nat}{sv:Value}{now:Int}{lv:Value}{l:YX}{p:List Ent×Rep}{w w1 w2:World}{e:Ending}(h:ChD g B0 bb sv now lv l p w e w1)(k:Fr [] w1 w2):ChD g B0 bb sv now lv l p w e w2:=by
 obtain⟨u,b,hr,f,a⟩:=h;exact⟨u,b,hr.fr k,f.trans k.up,fun j=>(a j).imp fun _ d=>d.go k⟩
theorem z2g(s)(now:Int)(key)(y)(til:Int)(nn:Bool)(e:Int)(r):fin s now key y til false nn e r=(s,orR r e nn):=by
 unfold fin orR;split
 ·rw[Xc (by decide)]
 ·split <;> rfl
theorem z8v{r r':Rep}{c:Int}{b:Bool}(h:c=0→r=r'):orR r c b=orR r' c b:=by
 unfold orR;split
 ·exact h ‹_›
 ·rfl
theorem zgj{l:List UInt8}{v:Int}(h:z5l l=some v):-9223372036854775808≤v∧v≤9223372036854775807:=by
 have:=(z7o.1 h).1;simp only[z0o,Yf,decide_eq_true_eq] at this;omega
theorem z62{s:List Ent}(ok:z22 s)(now:Int)(k):((z00 s now k).item=z2q 0∧z26 s now k=false)∨(z0a (z00 s now k).item=0∧z26 s now k=true∧z00 s now k∈s∧(z00 s now k).key=k):=by
 rcases z7r s now k with⟨a,b⟩|⟨a,b,h3,_⟩
 ·rw[a];exact .inl ⟨rfl,b⟩
 ·exact .inr ⟨ok.items _ a,b,a,h3⟩
theorem zv8{s:List Ent}(ok:z22 s){now:Int}{k:YY}(h:(z00 s now k).item.kind=0):(z00 s now k).item=z2q 0:=by
 rcases z62 ok now k with⟨a,_⟩|⟨a,_⟩
 ·exact a
 ·have:=(z2t a).kind;omega
theorem z3a{s:List Ent}(ok:z22 s)(now:Int)(k):z26 s now k=decide ((z00 s now k).item.kind≠0):=by
 rcases z62 ok now k with⟨a,b⟩|⟨a,b,_⟩
 ·rw[a,b];rfl
 ·have:=(z2t a).kind;rw[b,Xi (by omega)]
theorem q78:(∀(g B0:Nat) (sv) (now:Int) (lv) (l:YX) (s) (c0) (w) (ok:z22 s) (hn:1≤l.length) (h12:l.length≤11) (hz:∀t∈l,t.size≤60) (hk:((z00 s now (wd l 0)).item).kind=0) (h:Dr g B0 sv now lv l s w),Calls prog 153 #[.pointer (some ⟨g,0,none⟩),.string ⟨#[103,101,116]⟩] w (ChD g B0 B0 sv now lv l (doC .get s now (c0 :: l)) w))∧(∀(g B0:Nat) (sv) (now:Int) (lv) (l:YX) (s) (c0) (w) (ok:z22 s) (hn:2≤l.length) (h12:l.length≤11) (hz:∀t∈l,t.size≤60) (h:Dr g B0 sv now lv l s w),Calls prog 153 #[.pointer (some ⟨g,0,none⟩),.string ⟨#[115,101,116]⟩] w (ChD g B0 B0 sv now lv l (doC .set_ s now (c0 :: l)) w)):=by
 refine⟨?_,?_⟩;have k:=hid trivial
 rotate_left
 have ad:=hid trivial
 all_goals
  first
  | (guard_hyp k
     intro g B0 sv now lv l s c0 w ok hn h12 hz hk h)
  | (intro g B0 sv now lv l s c0 w ok hn h12 hz h)
  have hr:=ok.rise;have F:=ok.le;have DI:=zDI hr F h
  first
  | (guard_hyp k
     have E:doC .get s now (c0 :: l)=(s,zhv):=by
      show(if ((z00 s now (wd l 0)).item).kind=0 then fin s now (wd l 0) (z00 s now (wd l 0)).item (z00 s now (wd l 0)).til false false (z02 1 (z00 s now (wd l 0)).item) zhv else _)=_;rw[Xf hk,zv8 ok hk];rfl
     have q1:(((z00 s now (wd l 0)).item).kind==0)=true:=by simpa using hk
     rw[E];clear E hk)
  | (have G:∀i,(wd l i).size≤60:=zfl hz
     have E:doC .set_ s now (c0 :: l)=(if z2r s now (wd l 0) (z50 (wd l 1)) 0=0 then (zb7 s now (wd l 0) (z50 (wd l 1)) 0,z4b tOK) else (s,z8t (z2r s now (wd l 0) (z50 (wd l 1)) 0))):=by
      show fin s now (wd l 0) (z50 (wd l 1)) 0 true false 0 (z4b tOK)=_;unfold fin;rw[Xf rfl,Xf rfl]
     have PT:=hid (fun W (hd:Dr g B0 sv now lv l s W)=>(show Calls prog 193 #[.pointer (some ⟨g,0,none⟩),.string (wd l 0),.agg #[.int .i64 1,.string (wd l 1),.slice none 0 0,.slice none 0 0,.slice none 0 0],.int .i64 0] W (PutD g B0 sv now lv l (zb7 s now (wd l 0) (z50 (wd l 1)) 0) (z2r s now (wd l 0) (z50 (wd l 1)) 0) W) from zan g B0 sv now lv l s (wd l 0) (z50 (wd l 1)) _ 0 W hr (by omega) (zab (by have:=G 1;omega)) hd ⟨_,_,_,rfl,World.ownsRow_nil _ _ _ _,World.ownsRow_nil _ _ _ _,World.ownsRow_nil _ _ _ _⟩));rw[E];clear E)
  have H:=hid h;have ab:=h.lt;have C:=h.bz;obtain⟨SA,sc,rfl⟩:=h.sform;obtain⟨LA,lc,rfl⟩:=h.lform;obtain⟨b,off,rfl,hb,hc,I,y⟩:=h.word (by omega);have j:=hid y;have DG:=hid (fun W (hW:Fr [] w W)=>(h.go hW).three);unfold maxLen at I
  first
  | (guard_hyp k
     clear h hr y ok)
  | (clear h hr y G ok
     generalize zb7 s now (wd l 0) (z50 (wd l 1)) 0=V at *;generalize z2r s now (wd l 0) (z50 (wd l 1)) 0=e at *)
  generalize (z00 s now (wd l 0)).item=x at *
  first
  | (guard_hyp k
     skip)
  | (have ae:(0:Int) < (l.length:Int):=by omega
     have ac:(1:Int) < (l.length:Int):=by omega
     generalize hpp:(if e=0 then (V,z4b tOK) else (s,z8t e))=pp;have M:=hid hpp;clear hpp)
  have R:=zF w;have Q0:=zQ w;obtain⟨d0,d1,d2⟩:=DG.o _ R.o;have dw:=R.o.cell (j.o 0 (by omega)) (by simp);rw[Ye] at dw;go_enter func153,ntmps153;go_wp2_with fail;refine(DI.o _ R.o).mono ?_;rintro e1 w1 ⟨xv,rfl,hi,T⟩;have F1:=hid (R.o.trans T);have B:=hid (Q0.o.f0 T);have HI:=hid hi;obtain⟨X1,x1,X2,x2,X3,x3,rfl⟩:=hi.form;have hz1:=T.size;simp at hz1;clear T hi d0 d1 d2 dw;have C1:=zC1 B HI H F1
  first
  | (guard_hyp k
     have a9:=C1.o.q.lt;obtain⟨d0,d1,d2,d3,d4⟩:=five C1.o.b;have a8:=B.o.lt;obtain⟨y4,y5,y6,y7⟩:=four B.o;obtain⟨z4,z5,z6,z7⟩:=z1p B.o;go_wp2;obtain⟨U,Q,X,P⟩:=four (show Whole ((set4 w1 w.heap.size (.int .i64 5) (.string ⟨#[]⟩) (.int .i64 0) (.slice none 0 0)).alloc (.cells (yIa x X1 x1 X2 x2 X3 x3) 68)) w.heap.size 27 [.int .i64 5,.string ⟨#[]⟩,.int .i64 0,.slice none 0 0] from Whole.alloc (q7i B.o _ _ _ _) _);unfold set4 at U Q X P;refine Xg (v:=.agg #[.int .i64 5,.string ⟨#[]⟩,.int .i64 0,.slice none 0 0]) (by simp[results,results153,go_sem,U,Q,X,P]) rfl ?_;exact(ChD.fin4 (r:=zhv) (z1i.bare w1 _ _ _ _) F1.o.up B.o C (fun _=>⟨_,H.o.go F1.o⟩)).go ((Fr.refl [] _).alloc _))
  | (have a:=hid C1.o.drew
     have af:¬g=w.heap.size:=by omega
     have a5:¬w.heap.size=g:=by omega
     have aa:¬b=w.heap.size:=by omega
     have a7:¬w.heap.size=b:=by omega
     have a4:0 < l.length:=by omega
     have p:=a.o.d.three.2.2;have m:=a.o.f.cell (j.o 0 (by omega)) (by simp);rw[Ye] at m;have z:=a.o.f.cell (j.o 1 (by omega)) (by simp);go_upto_region 9 with fail;go_region_held3 (fun Y=>Y.cell? ⟨g,2,none⟩=some (.slice (some ⟨b,off,none⟩) l.length lc)∧Y.cell? ⟨b,off,none⟩=some (.string (wd l 0))∧Y.cell? ⟨b,off+1,none⟩=some (.string (wd l 1))) (go_keep) ((first|(go_at_call 152;refine(zdm _ _).mono ?_;rintro eq wq ⟨rfl,J⟩;have K:=hid (a.o.go J);clear a;have a:=K;clear K J p m z;have p:=a.o.d.three.2.2;have m:=a.o.f.cell (j.o 0 (by omega)) (by simp);rw[Ye] at m;have z:=a.o.f.cell (j.o 1 (by omega)) (by simp))|(go_at_call 194;refine(zio _ _).mono ?_;rintro eq wq ⟨rfl,J⟩;have K:=hid (a.o.go J);clear a;have a:=K;clear K J p m z;have p:=a.o.d.three.2.2;have m:=a.o.f.cell (j.o 0 (by omega)) (by simp);rw[Ye] at m;have z:=a.o.f.cell (j.o 1 (by omega)) (by simp))|(go_at_call 193;refine(PT.o _ a.o.d).mono ?_;rintro eq w6 ⟨rfl,A,a6,L,D⟩;have FB:=hid A;have CB:=hid a.o;have G6:=hid L;have D6:=hid D;have Q6:=hid (a.o.q.fr A (fun I=>by have:=(H.o.low _ I).2;omega));have F6:=hid (a.o.f.up.trans A);have Z:b∉g :: z1w (.slice SA s.length sc):=fun I=>(by have:=(H.o.low _ I).1;omega);clear p;have p:=G6.o.cell 2;have e6:=A.cell m Z;have e7:=A.cell z Z;clear A L D Z m z)|(go_at_call 191;refine(z6l (z4b tOK) _ e false (w.heap.size+1) _ (z1i.bare _ _ _ _ _)).mono ?_;rintro eq w8 ⟨rfl,u⟩;have Q8:=hid (Q6.o.f0 u);have F8:=hid (F6.o.trans u.up);have a1:=hid u;have e5:=u.cell p (by simp);have e8:=u.cell e6 (by simp);have e9:=u.cell e7 (by simp);clear u p e6 e7;obtain⟨U,Q,X,P⟩:=four Q8.o;obtain⟨z0,z1,z2,z3⟩:=z1p Q8.o;have HV:=hid (show z1i w8 (w.heap.size+1) (orV (.agg #[.int .i64 1,.string tOK,.int .i64 0,.slice none 0 0]) e false) (orR (z4b tOK) e false) from zc2 (z1i.bare _ _ _ _ _) e false);obtain⟨S,N,hS⟩:=HV.o.form;have O:=hid hS;clear hS;rw[O.o])))
     have a0:=hid (show pp=(if e=0 then V else s,orR (z4b tOK) e false) from by
      rw[←M.o];unfold orR;split
      ·
       rfl
      ·
       rw[Xc (fun h=>by cases h.2)])
     have a2:=hid (show z1i w8 (w.heap.size+1) (.agg #[.int .i64 (orR (z4b tOK) e false).kind,.string (orR (z4b tOK) e false).text,.int .i64 (orR (z4b tOK) e false).n,.slice S (orR (z4b tOK) e false).list.length N]) (orR (z4b tOK) e false) from by have:=HV.o;rw[O.o] at this;exact this);clear M
     have a3:=hid (show(orR (z4b tOK) e false).kind≠2→∃sv',Dr g B0 sv' now (.slice (some ⟨b,off,none⟩) l.length lc) l (if e=0 then V else s) w8 from fun hk=>by
      by_cases hp:e=0
      ·
       rw[Xf hp];exact⟨_,(D6.o hp).go a1.o⟩
      ·
       exact absurd (show(orR (z4b tOK) e false).kind=2 from by unfold orR;rw[Xc hp,Xc (fun h=>by cases h.2)];rfl) hk)
     generalize (if e=0 then V else s)=sf at *;generalize orR (z4b tOK) e false=q9 at *;go_wp2;refine Xg (v:=.agg (yRa q9 S N)) (by simp[results,results153,go_sem,U,Q,X,P]) rfl ?_;rw[a0.o];exact ChD.fin4 a2.o F8.o Q8.o C a3.o)
abbrev q2n:=@And.left _ _ q78
abbrev q2v:=@And.right _ _ q78
theorem q1y:(∀(g B0:Nat) (sv) (now:Int) (lv) (l:YX) (s) (c0) (w) (ok:z22 s) (hn:2≤l.length) (h12:l.length≤11) (hz:∀t∈l,t.size≤60) (hob:(decide (z02 3 (z00 s now (wd l 0)).item=0)&&z7m ((z00 s now (wd l 0)).item).list (wd l 1))=true) (h:Dr g B0 sv now lv l s w),Calls prog 156 #[.pointer (some ⟨g,0,none⟩),.string ⟨#[115,105,115,109,101,109,98,101,114]⟩] w (ChD g B0 B0 sv now lv l (doC .sismember s now (c0 :: l)) w))∧(∀(g B0:Nat) (sv) (now:Int) (lv) (l:YX) (s) (c0) (w) (ok:z22 s) (hn:2≤l.length) (h12:l.length≤11) (hz:∀t∈l,t.size≤60) (hob:(decide (z02 3 (z00 s now (wd l 0)).item=0)&&z7m ((z00 s now (wd l 0)).item).list (wd l 1))=false) (h:Dr g B0 sv now lv l s w),Calls prog 156 #[.pointer (some ⟨g,0,none⟩),.string ⟨#[115,105,115,109,101,109,98,101,114]⟩] w (ChD g B0 B0 sv now lv l (doC .sismember s now (c0 :: l)) w))∧(∀(g B0:Nat) (sv) (now:Int) (lv) (l:YX) (s) (c0) (w) (ok:z22 s) (hn:2≤l.length) (h12:l.length≤11) (hz:∀t∈l,t.size≤60) (h:Dr g B0 sv now lv l s w),Calls prog 158 #[.pointer (some ⟨g,0,none⟩),.string ⟨#[122,115,99,111,114,101]⟩] w (ChD g B0 B0 sv now lv l (doC .zscore s now (c0 :: l)) w))∧(∀(g B0:Nat) (sv) (now:Int) (lv) (l:YX) (s) (c0) (w) (ok:z22 s) (hn:2≤l.length) (h12:l.length≤11) (hz:∀t∈l,t.size≤60) (h:Dr g B0 sv now lv l s w),Calls prog 158 #[.pointer (some ⟨g,0,none⟩),.string ⟨#[122,114,97,110,107]⟩] w (ChD g B0 B0 sv now lv l (doC .zrank s now (c0 :: l)) w))∧(∀(g B0:Nat) (sv) (now:Int) (lv) (l:YX) (s) (c0) (w) (ok:z22 s) (hn:2≤l.length) (h12:l.length≤11) (hz:∀t∈l,t.size≤60) (h:Dr g B0 sv now lv l s w),Calls prog 157 #[.pointer (some ⟨g,0,none⟩),.string ⟨#[104,103,101,116]⟩] w (ChD g B0 B0 sv now lv l (doC .hget s now (c0 :: l)) w))∧(∀(g B0:Nat) (sv) (now:Int) (lv) (l:YX) (s) (c0) (w) (ok:z22 s) (hn:3≤l.length) (h12:l.length≤11) (hz:∀t∈l,t.size≤60) (n1:Int) (h1:z5l (wd l 1).data.toList=some n1) (n2:Int) (h2:z5l (wd l 2).data.toList=some n2) (hv:Vars w) (h:Dr g B0 sv now lv l s w),Calls prog 153 #[.pointer (some ⟨g,0,none⟩),.string ⟨#[103,101,116,114,97,110,103,101]⟩] w (ChD g B0 B0 sv now lv l (doC .getrange s now (c0 :: l)) w))∧(∀(g B0:Nat) (sv) (now:Int) (lv) (l:YX) (s) (c0) (w) (ok:z22 s) (hn:1≤l.length) (h12:l.length≤11) (hz:∀t∈l,t.size≤60) (hk:((z00 s now (wd l 0)).item).kind≠0) (h:Dr g B0 sv now lv l s w),Calls prog 153 #[.pointer (some ⟨g,0,none⟩),.string ⟨#[103,101,116]⟩] w (ChD g B0 B0 sv now lv l (doC .get s now (c0 :: l)) w))∧(∀(g B0:Nat) (sv) (now:Int) (lv) (l:YX) (s) (c0) (w) (ok:z22 s) (hn:1≤l.length) (h12:l.length≤11) (hz:∀t∈l,t.size≤60) (h:Dr g B0 sv now lv l s w),Calls prog 153 #[.pointer (some ⟨g,0,none⟩),.string ⟨#[115,116,114,108,101,110]⟩] w (ChD g B0 B0 sv now lv l (doC .strlen s now (c0 :: l)) w)):=by
 refine⟨?_,?_,?_,?_,?_,?_,?_,?_⟩;have L:=hid trivial
 rotate_left
 have I:=hid trivial
 rotate_left
 have K:=hid trivial
 rotate_left
 have J:=hid trivial
 rotate_left
 have F:=hid trivial
 rotate_left
 have R:=hid trivial
 rotate_left
 have U:=hid trivial
 rotate_left
 have O:=hid trivial
 all_goals
  first
  | (guard_hyp R
     intro g B0 sv now lv l s c0 w ok hn h12 hz n1 h1 n2 h2 hv h)
  | (guard_hyp U
     intro g B0 sv now lv l s c0 w ok hn h12 hz hk h)
  | (skip
     (first|guard_hyp L|guard_hyp I)
     intro g B0 sv now lv l s c0 w ok hn h12 hz hob h)
  | (intro g B0 sv now lv l s c0 w ok hn h12 hz h)
  have hr:=ok.rise;have a0:=ok.le;have DI:=zDI hr a0 h;have Z:=hid (z2n (z17 ok) now (wd l 0)).item
  first
  | (guard_hyp L
     have m:doC .sismember s now (c0 :: l)=(s,orR (z0s 1) (z02 3 (z00 s now (wd l 0)).item) false):=by
      show fin s now (wd l 0) (z00 s now (wd l 0)).item (z00 s now (wd l 0)).til false false (z02 3 (z00 s now (wd l 0)).item) (z0s (if z7m ((z00 s now (wd l 0)).item).list (wd l 1)=true then 1 else 0))=_;rw[z2g];refine congrArg (Prod.mk s) (z8v fun h=>?_);rw[Xi h,Vk] at hob;rw[hob];rfl
     have M:=hid (fun W u (k:z0p W W.heap.size u (z00 s now (wd l 0)).item)=>zcu (z00 s now (wd l 0)).item u (wd l 1) W W.heap.size Z.o (Xb _) k);rw[hob] at M;rw[m];clear m hob)
  | (guard_hyp I
     have m:doC .sismember s now (c0 :: l)=(s,orR (z0s 0) (z02 3 (z00 s now (wd l 0)).item) false):=by
      show fin s now (wd l 0) (z00 s now (wd l 0)).item (z00 s now (wd l 0)).til false false (z02 3 (z00 s now (wd l 0)).item) (z0s (if z7m ((z00 s now (wd l 0)).item).list (wd l 1)=true then 1 else 0))=_;rw[z2g];refine congrArg (Prod.mk s) (z8v fun h=>?_);rw[Xi h,Vk] at hob;rw[hob];rfl
     have M:=hid (fun W u (k:z0p W W.heap.size u (z00 s now (wd l 0)).item)=>zcu (z00 s now (wd l 0)).item u (wd l 1) W W.heap.size Z.o (Xb _) k);rw[hob] at M;rw[m];clear m hob)
  | (guard_hyp K
     have m:doC .zscore s now (c0 :: l)=(s,orR (z0s (zvo (z00 s now (wd l 0)).item (wd l 1))) (z16 (z00 s now (wd l 0)).item (wd l 1)) true):=by
      show fin s now (wd l 0) (z00 s now (wd l 0)).item (z00 s now (wd l 0)).til false true (z16 (z00 s now (wd l 0)).item (wd l 1)) (z0s (zvo (z00 s now (wd l 0)).item (wd l 1)))=_;exact z2g _ _ _ _ _ _ _ _
     have M:=hid (fun W u (k:z0p W W.heap.size u (z00 s now (wd l 0)).item)=>zfb (z00 s now (wd l 0)).item u (wd l 1) W W.heap.size Z.o (Xb _) k);rw[m];clear m)
  | (guard_hyp J
     have m:doC .zrank s now (c0 :: l)=(s,orR (z0s (zba (z00 s now (wd l 0)).item (wd l 1))) (z16 (z00 s now (wd l 0)).item (wd l 1)) true):=by
      show fin s now (wd l 0) (z00 s now (wd l 0)).item (z00 s now (wd l 0)).til false true (z16 (z00 s now (wd l 0)).item (wd l 1)) (z0s (zba (z00 s now (wd l 0)).item (wd l 1)))=_;exact z2g _ _ _ _ _ _ _ _
     have M:=hid (fun W u (k:z0p W W.heap.size u (z00 s now (wd l 0)).item)=>zbg (z00 s now (wd l 0)).item u (wd l 1) W W.heap.size Z.o (Xb _) k);rw[m];clear m)
  | (guard_hyp F
     have m:doC .hget s now (c0 :: l)=(s,orR (z1s (zxf (z00 s now (wd l 0)).item (wd l 1))) (z5z (z00 s now (wd l 0)).item (wd l 1)) true):=by
      show fin s now (wd l 0) (z00 s now (wd l 0)).item (z00 s now (wd l 0)).til false true (z5z (z00 s now (wd l 0)).item (wd l 1)) (z1s (zxf (z00 s now (wd l 0)).item (wd l 1)))=_;exact z2g _ _ _ _ _ _ _ _
     have M:=hid (fun W u (k:z0p W W.heap.size u (z00 s now (wd l 0)).item)=>zmr (z00 s now (wd l 0)).item u (wd l 1) W W.heap.size Z.o (Xb _) k);rw[m];clear m)
  | (guard_hyp R
     have a3:wn (c0 :: l) 2=n1:=by show(z5l (wd l 1).data.toList).getD 0=n1;rw[h1];rfl
     have a6:=zgj h1;have I1:=zI1 (by omega) hz h1 hv h;have a2:wn (c0 :: l) 3=n2:=by show(z5l (wd l 2).data.toList).getD 0=n2;rw[h2];rfl
     have a5:=zgj h2;have I2:=zI2 (by omega) hz h2 hv h;clear h1 h2 hv
     have m:doC .getrange s now (c0 :: l)=(s,orR (z1s (rgS (z00 s now (wd l 0)).item n1 n2)) (z02 1 (z00 s now (wd l 0)).item) false):=by
      show fin s now (wd l 0) (z00 s now (wd l 0)).item (z00 s now (wd l 0)).til false false (z02 1 (z00 s now (wd l 0)).item) (z1s (rgS (z00 s now (wd l 0)).item (wn (c0 :: l) 2) (wn (c0 :: l) 3)))=_;rw[a3,a2];exact z2g _ _ _ _ _ _ _ _
     have M:=hid (fun W u (k:z0p W W.heap.size u (z00 s now (wd l 0)).item)=>zgw (z00 s now (wd l 0)).item u n1 n2 W W.heap.size Z.o (Xb _) k a6 a5);rw[m];clear m a3 a2)
  | (guard_hyp U
     have m:doC .get s now (c0 :: l)=(s,orR (z1s (rgS (z00 s now (wd l 0)).item 0 (-1))) (z02 1 (z00 s now (wd l 0)).item) false):=by
      show(if ((z00 s now (wd l 0)).item).kind=0 then _ else fin s now (wd l 0) (z00 s now (wd l 0)).item (z00 s now (wd l 0)).til false false (z02 1 (z00 s now (wd l 0)).item) (z1s ((z00 s now (wd l 0)).item).text))=_;rw[Xc hk,z2g];exact congrArg (Prod.mk s) (z8v fun h=>by rw[q6q h])
     have q1:(((z00 s now (wd l 0)).item).kind==0)=false:=by simpa using hk
     have M:=hid (fun W u (k:z0p W W.heap.size u (z00 s now (wd l 0)).item)=>zgw (z00 s now (wd l 0)).item u 0 (-1) W W.heap.size Z.o (Xb _) k (by decide) (by decide));rw[m];clear m hk)
  | (have m:doC .strlen s now (c0 :: l)=(s,orR (z0s (lnN (z00 s now (wd l 0)).item)) (z02 1 (z00 s now (wd l 0)).item) false):=by
      show fin s now (wd l 0) (z00 s now (wd l 0)).item (z00 s now (wd l 0)).til false false (z02 1 (z00 s now (wd l 0)).item) (z0s (lnN (z00 s now (wd l 0)).item))=_;exact z2g _ _ _ _ _ _ _ _
     have M:=hid (fun W u (k:z0p W W.heap.size u (z00 s now (wd l 0)).item)=>q12 (z00 s now (wd l 0)).item u W W.heap.size Z.o (Xb _) k);rw[m];clear m)
  have H:=hid h;have a7:=h.lt;have a4:=h.bz;obtain⟨SA,sc,rfl⟩:=h.sform;obtain⟨LA,lc,rfl⟩:=h.lform;obtain⟨b,off,rfl,hb,hc,hm,a1⟩:=h.word (by omega);have D:=hid a1;have DG:=hid (fun W (hW:Fr [] w W)=>(h.go hW).three);unfold maxLen at hm;clear h hr a1 ok
  first
  | (guard_hyp K
     generalize zvo (z00 s now (wd l 0)).item (wd l 1)=j at *;generalize z16 (z00 s now (wd l 0)).item (wd l 1)=a at *)
  | (guard_hyp J
     generalize zba (z00 s now (wd l 0)).item (wd l 1)=j at *;generalize z16 (z00 s now (wd l 0)).item (wd l 1)=a at *)
  | (guard_hyp F
     generalize zxf (z00 s now (wd l 0)).item (wd l 1)=j at *;generalize z5z (z00 s now (wd l 0)).item (wd l 1)=a at *)
  | (guard_hyp R
     generalize rgS (z00 s now (wd l 0)).item n1 n2=X at *;generalize z02 1 (z00 s now (wd l 0)).item=a at *)
  | (guard_hyp U
     generalize rgS (z00 s now (wd l 0)).item 0 (-1)=X at *;generalize z02 1 (z00 s now (wd l 0)).item=a at *)
  | (guard_hyp O
     generalize lnN (z00 s now (wd l 0)).item=j at *;generalize z02 1 (z00 s now (wd l 0)).item=a at *)
  | (generalize z02 3 (z00 s now (wd l 0)).item=a at *)
  generalize (z00 s now (wd l 0)).item=x at *
  first
  | (skip
     (first|guard_hyp R|guard_hyp U|guard_hyp O)
     skip)
  | (have a8:(1:Int) < (l.length:Int):=by omega)
  have F0:=zF w;have Q0:=zQ w;obtain⟨z,A,y⟩:=DG.o _ F0.o;have dw:=F0.o.cell (D.o 0 (by omega)) (by simp);rw[Ye] at dw
  first
  | (guard_hyp F
     go_enter func157,ntmps157)
  | (skip
     (first|guard_hyp L|guard_hyp I)
     go_enter func156,ntmps156)
  | (skip
     (first|guard_hyp K|guard_hyp J)
     go_enter func158,ntmps158)
  | (go_enter func153,ntmps153)
  go_wp2_with fail;refine(DI.o _ F0.o).mono ?_;rintro e1 w1 ⟨xv,rfl,hi,f1⟩;have F1:=hid (F0.o.trans f1);have Q1:=hid (Q0.o.f0 f1);have HI:=hid hi;obtain⟨X1,x1,X2,x2,X3,x3,rfl⟩:=hi.form;have hz1:=f1.size;simp at hz1;clear f1 hi z A y dw;have C1:=zC1 Q1 HI H F1
  first
  | (skip
     (first|guard_hyp U|guard_hyp O)
     have e:=hid C1.o)
  | (have e:=hid C1.o.drew)
  obtain⟨z,A,y,C,E⟩:=five e.o.b
  first
  | (guard_hyp K
     have P:=(e.o.d).three.2.2;have N:=e.o.f.cell (D.o 1 (by omega)) (by simp);go_upto_region 15 with fail;go_region_held3 (fun G=>yIc G w1.heap.size x X1 x1 X2 x2 X3 x3∧G.cell? ⟨g,2,none⟩=some (.slice (some ⟨b,off,none⟩) l.length lc)∧G.cell? ⟨b,off+1,none⟩=some (.string (wd l 1))) ((simp only[yIc];go_keep)) ((first|(go_at_call 227;(first|(with_reducible refine(M.o _ _ e.o.i.item).mono ?_));rintro eq wq ⟨rfl,p⟩;have r:=hid (e.o.go p);clear e;have e:=r;clear r p z A y C E P N;obtain⟨z,A,y,C,E⟩:=five e.o.b;have P:=(e.o.d).three.2.2;have N:=e.o.f.cell (D.o 1 (by omega)) (by simp))))
     clear z A y C E P N)
  | (guard_hyp J
     have P:=(e.o.d).three.2.2;have N:=e.o.f.cell (D.o 1 (by omega)) (by simp);go_upto_region 18 with fail;go_region_held3 (fun G=>yIc G w1.heap.size x X1 x1 X2 x2 X3 x3∧G.cell? ⟨g,2,none⟩=some (.slice (some ⟨b,off,none⟩) l.length lc)∧G.cell? ⟨b,off+1,none⟩=some (.string (wd l 1))) ((simp only[yIc];go_keep)) ((first|(go_at_call 228;(first|(with_reducible refine(M.o _ _ e.o.i.item).mono ?_));rintro eq wq ⟨rfl,p⟩;have r:=hid (e.o.go p);clear e;have e:=r;clear r p z A y C E P N;obtain⟨z,A,y,C,E⟩:=five e.o.b;have P:=(e.o.d).three.2.2;have N:=e.o.f.cell (D.o 1 (by omega)) (by simp))))
     clear z A y C E P N)
  | (guard_hyp F
     have P:=(e.o.d).three.2.2;have N:=e.o.f.cell (D.o 1 (by omega)) (by simp);go_upto_region 12 with fail;go_region_held3 (fun G=>yIc G w1.heap.size x X1 x1 X2 x2 X3 x3∧G.cell? ⟨g,2,none⟩=some (.slice (some ⟨b,off,none⟩) l.length lc)∧G.cell? ⟨b,off+1,none⟩=some (.string (wd l 1))) ((simp only[yIc];go_keep)) ((first|(go_at_call 223;(first|(with_reducible refine(M.o _ _ e.o.i.item).mono ?_));rintro eq wq ⟨rfl,p⟩;have r:=hid (e.o.go p);clear e;have e:=r;clear r p z A y C E P N;obtain⟨z,A,y,C,E⟩:=five e.o.b;have P:=(e.o.d).three.2.2;have N:=e.o.f.cell (D.o 1 (by omega)) (by simp))))
     clear z A y C E P N)
  | (guard_hyp R
     go_upto_region 19 with fail;go_region_held3 (fun G=>yIc G w1.heap.size x X1 x1 X2 x2 X3 x3) ((simp only[yIc];go_keep)) ((first|(go_at_call 200;(first|(with_reducible refine(I1.o _ e.o.f).mono ?_)|(with_reducible refine(I2.o _ e.o.f).mono ?_));rintro eq wq ⟨rfl,p⟩;have r:=hid (e.o.go p);clear e;have e:=r;clear r p z A y C E;obtain⟨z,A,y,C,E⟩:=five e.o.b)|(go_at_call 190;(first|(with_reducible refine(M.o _ _ e.o.i.item).mono ?_));rintro eq wq ⟨rfl,p⟩;have r:=hid (e.o.go p);clear e;have e:=r;clear r p z A y C E;obtain⟨z,A,y,C,E⟩:=five e.o.b)))
     clear z A y C E)
  | (skip
     (first|guard_hyp L|guard_hyp I)
     have P:=(e.o.d).three.2.2;have N:=e.o.f.cell (D.o 1 (by omega)) (by simp);go_upto_region 10 with fail;go_region_held3 (fun G=>yIc G w1.heap.size x X1 x1 X2 x2 X3 x3∧G.cell? ⟨g,2,none⟩=some (.slice (some ⟨b,off,none⟩) l.length lc)∧G.cell? ⟨b,off+1,none⟩=some (.string (wd l 1))) ((simp only[yIc];go_keep)) ((first|(go_at_call 217;(first|(with_reducible refine(M.o _ _ e.o.i.item).mono ?_));rintro eq wq ⟨rfl,p⟩;have r:=hid (e.o.go p);clear e;have e:=r;clear r p z A y C E P N;obtain⟨z,A,y,C,E⟩:=five e.o.b;have P:=(e.o.d).three.2.2;have N:=e.o.f.cell (D.o 1 (by omega)) (by simp))))
     clear z A y C E P N)
  | (skip)
  go_wp2_with fail
  first
  | (guard_hyp U
     refine(M.o _ _ e.o.i.item).mono ?_;rintro eq wq ⟨rfl,p⟩;have r:=hid (e.o.go p);clear e;have e:=r;clear r p z A y C E;go_wp2_with fail;refine(zak _ _).mono ?_)
  | (guard_hyp O
     refine(M.o _ _ e.o.i.item).mono ?_;rintro eq wq ⟨rfl,p⟩;have r:=hid (e.o.go p);clear e;have e:=r;clear r p;clear z A y C E;go_wp2_with fail;refine(z1c _ _).mono ?_)
  | (skip
     (first|guard_hyp F|guard_hyp R)
     refine(zak _ _).mono ?_)
  | (refine(z1c _ _).mono ?_)
  rintro e7 w7 ⟨rfl,f7⟩;have C7:=hid (e.o.go f7);clear f7;go_wp2_with fail
  first
  | (guard_hyp L
     refine(z6l (z0s 1) _ a false (w.heap.size+1) _ (z1i.bare _ _ _ _ _)).mono ?_)
  | (guard_hyp I
     refine(z6l (z0s 0) _ a false (w.heap.size+1) _ (z1i.bare _ _ _ _ _)).mono ?_)
  | (guard_hyp F
     refine(z6l (z1s j) _ a true (w.heap.size+1) _ (z1i.bare _ _ _ _ _)).mono ?_)
  | (guard_hyp O
     refine(z6l (z0s j) _ a false (w.heap.size+1) _ (z1i.bare _ _ _ _ _)).mono ?_)
  | (skip
     (first|guard_hyp K|guard_hyp J)
     refine(z6l (z0s j) _ a true (w.heap.size+1) _ (z1i.bare _ _ _ _ _)).mono ?_)
  | (refine(z6l (z1s X) _ a false (w.heap.size+1) _ (z1i.bare _ _ _ _ _)).mono ?_)
  rintro e8 w8 ⟨rfl,f8⟩;have C8:=hid (C7.o.go f8)
  first
  | (guard_hyp L
     have V:=hid (show z1i w8 (w.heap.size+1) (orV (.agg #[.int .i64 3,.string ⟨#[]⟩,.int .i64 1,.slice none 0 0]) a false) (orR (z0s 1) a false) from zc2 (z1i.bare _ _ _ _ _) a false))
  | (guard_hyp I
     have V:=hid (show z1i w8 (w.heap.size+1) (orV (.agg #[.int .i64 3,.string ⟨#[]⟩,.int .i64 0,.slice none 0 0]) a false) (orR (z0s 0) a false) from zc2 (z1i.bare _ _ _ _ _) a false))
  | (guard_hyp F
     have V:=hid (show z1i w8 (w.heap.size+1) (orV (.agg #[.int .i64 4,.string j,.int .i64 0,.slice none 0 0]) a true) (orR (z1s j) a true) from zc2 (z1i.bare _ _ _ _ _) a true))
  | (guard_hyp O
     have V:=hid (show z1i w8 (w.heap.size+1) (orV (.agg #[.int .i64 3,.string ⟨#[]⟩,.int .i64 j,.slice none 0 0]) a false) (orR (z0s j) a false) from zc2 (z1i.bare _ _ _ _ _) a false))
  | (skip
     (first|guard_hyp K|guard_hyp J)
     have V:=hid (show z1i w8 (w.heap.size+1) (orV (.agg #[.int .i64 3,.string ⟨#[]⟩,.int .i64 j,.slice none 0 0]) a true) (orR (z0s j) a true) from zc2 (z1i.bare _ _ _ _ _) a true))
  | (have V:=hid (show z1i w8 (w.heap.size+1) (orV (.agg #[.int .i64 4,.string X,.int .i64 0,.slice none 0 0]) a false) (orR (z1s X) a false) from zc2 (z1i.bare _ _ _ _ _) a false))
  clear f8;obtain⟨S,B,hS⟩:=V.o.form;have Q:=hid hS;clear hS;rw[Q.o]
  first
  | (guard_hyp L
     have T:=hid (show z1i _ _ (.agg #[.int .i64 (orR (z0s 1) a false).kind,.string (orR (z0s 1) a false).text,.int .i64 (orR (z0s 1) a false).n,.slice S (orR (z0s 1) a false).list.length B]) (orR (z0s 1) a false) from by have:=V.o;rw[Q.o] at this;exact this);generalize orR (z0s 1) a false=Y at *)
  | (guard_hyp I
     have T:=hid (show z1i _ _ (.agg #[.int .i64 (orR (z0s 0) a false).kind,.string (orR (z0s 0) a false).text,.int .i64 (orR (z0s 0) a false).n,.slice S (orR (z0s 0) a false).list.length B]) (orR (z0s 0) a false) from by have:=V.o;rw[Q.o] at this;exact this);generalize orR (z0s 0) a false=Y at *)
  | (guard_hyp F
     have T:=hid (show z1i _ _ (.agg #[.int .i64 (orR (z1s j) a true).kind,.string (orR (z1s j) a true).text,.int .i64 (orR (z1s j) a true).n,.slice S (orR (z1s j) a true).list.length B]) (orR (z1s j) a true) from by have:=V.o;rw[Q.o] at this;exact this);generalize orR (z1s j) a true=Y at *)
  | (guard_hyp O
     have T:=hid (show z1i _ _ (.agg #[.int .i64 (orR (z0s j) a false).kind,.string (orR (z0s j) a false).text,.int .i64 (orR (z0s j) a false).n,.slice S (orR (z0s j) a false).list.length B]) (orR (z0s j) a false) from by have:=V.o;rw[Q.o] at this;exact this);generalize orR (z0s j) a false=Y at *)
  | (skip
     (first|guard_hyp K|guard_hyp J)
     have T:=hid (show z1i _ _ (.agg #[.int .i64 (orR (z0s j) a true).kind,.string (orR (z0s j) a true).text,.int .i64 (orR (z0s j) a true).n,.slice S (orR (z0s j) a true).list.length B]) (orR (z0s j) a true) from by have:=V.o;rw[Q.o] at this;exact this);generalize orR (z0s j) a true=Y at *)
  | (have T:=hid (show z1i _ _ (.agg #[.int .i64 (orR (z1s X) a false).kind,.string (orR (z1s X) a false).text,.int .i64 (orR (z1s X) a false).n,.slice S (orR (z1s X) a false).list.length B]) (orR (z1s X) a false) from by have:=V.o;rw[Q.o] at this;exact this)
     generalize orR (z1s X) a false=Y at *)
  obtain⟨y0,y1,y2,y3⟩:=four C8.o.q;obtain⟨z0,z1,z2,z3⟩:=z1p C8.o.q;go_wp2
  first
  | (guard_hyp F
     refine Xg (v:=.agg (yRa Y S B)) (by simp[results,results157,go_sem,y0,y1,y2,y3]) rfl ?_)
  | (skip
     (first|guard_hyp L|guard_hyp I)
     refine Xg (v:=.agg (yRa Y S B)) (by simp[results,results156,go_sem,y0,y1,y2,y3]) rfl ?_)
  | (skip
     (first|guard_hyp K|guard_hyp J)
     refine Xg (v:=.agg (yRa Y S B)) (by simp[results,results158,go_sem,y0,y1,y2,y3]) rfl ?_)
  | (refine Xg (v:=.agg (yRa Y S B)) (by simp[results,results153,go_sem,y0,y1,y2,y3]) rfl ?_)
  exact ChD.fin4 T.o C8.o.f.up C8.o.q a4 (fun _=>⟨_,C8.o.d⟩)
abbrev zhf:=@And.left _ _ q1y
abbrev zhe:=@And.left _ _ (@And.right _ _ q1y)
abbrev zu4:=@And.left _ _ (@And.right _ _ (@And.right _ _ q1y))
abbrev zyt:=@And.left _ _ (@And.right _ _ (@And.right _ _ (@And.right _ _ q1y)))
abbrev q2q:=@And.left _ _ (@And.right _ _ (@And.right _ _ (@And.right _ _ (@And.right _ _ q1y))))
abbrev zmb:=@And.left _ _ (@And.right _ _ (@And.right _ _ (@And.right _ _ (@And.right _ _ (@And.right _ _ q1y)))))
abbrev q2o:=@And.left _ _ (@And.right _ _ (@And.right _ _ (@And.right _ _ (@And.right _ _ (@And.right _ _ (@And.right _ _ q1y))))))
abbrev zu1:=@And.right _ _ (@And.right _ _ (@And.right _ _ (@And.right _ _ (@And.right _ _ (@And.right _ _ (@And.right _ _ q1y))))))
section
variable (g B0:Nat) (sv:Value) (now:Int) (lv:Value) (l:YX) (s:List Ent) (c0:YY) (w:World)
theorem q5v(ok:z22 s)(hn:1≤l.length)(h12:l.length≤11)(hz:∀t∈l,t.size≤60)(h:Dr g B0 sv now lv l s w):
  Calls prog 153 #[.pointer (some ⟨g,0,none⟩),.string ⟨#[103,101,116]⟩] w (ChD g B0 B0 sv now lv l (doC .get s now (c0 :: l)) w):=by
 by_cases hk:((z00 s now (wd l 0)).item).kind=0
 ·exact q2n g B0 sv now lv l s c0 w ok hn h12 hz hk h
 ·exact q2o g B0 sv now lv l s c0 w ok hn h12 hz hk h
def UnO(s t:Sto)(c:Int):Prop:=t.Small∧(c=0→z0q t=0∧z0y t=z0y s)
theorem zep:noS.Small:=z1k (zsg (by decide +kernel))
theorem q15{s:Sto}(h:z0q s=0)(k):UnO s (z4e s k).1 (z4e s k).2:=by
 unfold z4e;rw[Xf h];by_cases hc:(z5x s k).2=0
 ·have:=ztg (t:=(z5x s k).1) (k:=k) (zsg h) (by rw[←hc]);exact⟨z1k this.1,fun _=>⟨z69 this.1,this.2⟩⟩
 ·rw[zja hc];exact⟨zep,fun e=>absurd e hc⟩
theorem q19{s:Sto}(h:z0q s=0)(k):UnO s (z4m s k).1 (z4m s k).2:=by
 unfold z4m;rw[Xf h];by_cases hc:(z70 s k).2=0
 ·have:=zxa (t:=(z70 s k).1) (k:=k) (zsg h) (by rw[←hc]);exact⟨z1k this.1,fun _=>⟨z69 this.1,this.2⟩⟩
 ·rw[zlr hc];exact⟨zep,fun e=>absurd e hc⟩
theorem q18{s:Sto}(h:z0q s=0)(n:Int):UnO s (z8j s n).1 (z8j s n).2.2:=by
 unfold z8j;rw[Xf h];by_cases hc:(z4f s n).2.2=0
 ·have:=zuh (t:=(z4f s n).1) (n:=n) (c:=(z4f s n).2.1) (zsg h) (by rw[←hc]);exact⟨z1k this.1,fun _=>⟨z69 this.1,this.2⟩⟩
 ·rw[(ze3 hc).1];exact⟨zep,fun e=>absurd e hc⟩
def cbT:YY:=⟨#[116]⟩
def cbL:YY:=⟨#[108]⟩
def cbD:YX:=[⟨#[114,112,117,115,104]⟩,⟨#[108]⟩,⟨#[122]⟩]
def cbA:Sto:=(z4e z4k cbT).1
def cbB:Sto:=(z4m cbA cbL).1
def cbC:Sto:=(z8j cbB 0).1
def cbE:Sto:=z8i z4k (doR z1r 5 cbD).1
theorem zy6:z6e z4k:=zsg zfj
theorem zh6:z0y z4k=z1r:=by kernel_rfl
theorem cb_a:(z4e z4k cbT).2=0:=by kernel_rfl
theorem q5j:z0q cbA=0:=by decide +kernel
theorem q5i:cbA.segs.map List.length=[3]:=by kernel_rfl
theorem cb_b:(z4m cbA cbL).2=0:=by kernel_rfl
theorem q5k:z0q cbB=0:=by decide +kernel
theorem cb_c:(z8j cbB 0).2=(2,0):=by kernel_rfl
theorem q1e:z0q cbC=0:=by decide +kernel
theorem q5l:cbC.slots.map Slt.rcd=[0,0]:=by kernel_rfl
theorem cb_cv:z0y cbC=z1r:=by kernel_rfl
theorem cb_kn:z1x cbD=0:=by kernel_rfl
theorem cb_cm:cmL cbD=some .rpush:=by kernel_rfl
theorem q5o:z1z (doR z1r 5 cbD).1=0:=by kernel_rfl
theorem cb_rn:((doR z1r 5 cbD).2.n==4)=true:=by kernel_rfl
theorem q5m:cbE.slots.map Slt.cold=[false,false]:=by kernel_rfl
theorem zvh{α β:Type}{f:α→β}{l:List α}{m:List β}(h:l.map f=m){i:Nat}{y:β}(hy:m[i]? = some y):∃x,l[i]? = some x∧f x=y:=by
 rw[←h,Uc] at hy;obtain⟨x,a,e⟩:=Yr.1 hy;exact⟨x,a,e⟩
theorem q0l(x)(f t:Int):(z79 x f t).length≤1000:=by
 unfold z79;split
 ·rename_i h;have a:=(z3t h).2;have:=z6z (x.scores.map (·.2)).length f t;rw[z2p];rw[Xx] at this ⊢;omega
 ·simp
theorem zxb(x)(f t:Int):(z52 x f t).length≤1000:=by
 unfold z52;split
 ·rename_i h;have a:=(z3t h).2;have:=Xv (fun s:Int×YY=>decide (f≤s.1)&&decide (s.1≤t)) x.scores;unfold z8c;rw[Xx];omega
 ·simp
theorem zji(ok:z22 s)(hn:2≤l.length)(h12:l.length≤11)(hz:∀t∈l,t.size≤60)(h:Dr g B0 sv now lv l s w):
  Calls prog 156 #[.pointer (some ⟨g,0,none⟩),.string ⟨#[115,105,115,109,101,109,98,101,114]⟩] w (ChD g B0 B0 sv now lv l (doC .sismember s now (c0 :: l)) w):=by
 rcases hb:(decide (z02 3 (z00 s now (wd l 0)).item=0)&&z7m ((z00 s now (wd l 0)).item).list (wd l 1)) with _|_
 ·exact zhe g B0 sv now lv l s c0 w ok hn h12 hz hb h
 ·exact zhf g B0 sv now lv l s c0 w ok hn h12 hz hb h
end
theorem zl3(s)(now:Int)(k)(x)(u:Int):z2r s now k x u≠5:=by
 unfold z2r;split
 ·decide
 ·split <;> decide
theorem ztz(left:Bool)(t)(ht:(left=true∧t=⟨#[108,112,111,112]⟩)∨(left=false∧t=⟨#[114,112,111,112]⟩))(g B0:Nat)(sv)(now:Int)(lv)(l:YX)(s)(c0:YY)(w)(ok:z22 s)(hn:1≤l.length)(h12:l.length≤11)(hz:∀t∈l,t.size≤60)(h:Dr g B0 sv now lv l s w):
  Calls prog 155 #[.pointer (some ⟨g,0,none⟩),.string t] w (ChD g B0 B0 sv now lv l (doC (if left=true then .lpop else .rpop) s now (c0 :: l)) w):=by
 have hr:=ok.rise;have I:=ok.le;have DI:=zDI hr I h;have LS:=hid (z2n (z17 ok) now (wd l 0)).item
 have EP:doC (if left=true then .lpop else .rpop) s now (c0 :: l)=(if z1q (z00 s now (wd l 0)).item=0 then (if z2r s now (wd l 0) (zg0 (z00 s now (wd l 0)).item left) (z00 s now (wd l 0)).til=0 then zb7 s now (wd l 0) (zg0 (z00 s now (wd l 0)).item left) (z00 s now (wd l 0)).til else s) else s,orR (z1s (zxi (z00 s now (wd l 0)).item left)) (if z1q (z00 s now (wd l 0)).item=0 then z2r s now (wd l 0) (zg0 (z00 s now (wd l 0)).item left) (z00 s now (wd l 0)).til else z1q (z00 s now (wd l 0)).item) true):=by
  rw[show doC (if left=true then .lpop else .rpop) s now (c0 :: l)=fin s now (wd l 0) (zg0 (z00 s now (wd l 0)).item left) (z00 s now (wd l 0)).til true true (z1q (z00 s now (wd l 0)).item) (z1s (zxi (z00 s now (wd l 0)).item left)) from by cases left <;> rfl];unfold fin;have h5:=zl3 s now (wd l 0) (zg0 (z00 s now (wd l 0)).item left) (z00 s now (wd l 0)).til;by_cases h0:z1q (z00 s now (wd l 0)).item=0
  ·rw[Xf h0,Xf rfl,Xf h0,Xf h0];by_cases h1:z2r s now (wd l 0) (zg0 (z00 s now (wd l 0)).item left) (z00 s now (wd l 0)).til=0
   ·rw[Xf h1,Xf h1,h1];rfl
   ·rw[Xc h1,Xc h1];unfold orR;rw[Xc h1,Xc (fun h=>h5 h.1)]
  ·rw[Xc h0,Xc h0,Xc h0];unfold orR;rw[Xc h0];split <;> rfl
 have OP:=hid (fun W u (k:z0p W W.heap.size u (z00 s now (wd l 0)).item)=>zmy (z00 s now (wd l 0)).item u left W W.heap.size LS.o (Xb _) k);have KP:=hid (fun W yv (hd:Dr g B0 sv now lv l s W) (K:z0k W B0 yv (zg0 (z00 s now (wd l 0)).item left))=>zjh g B0 sv now lv l s (zg0 (z00 s now (wd l 0)).item left) yv W hr (by omega) (by omega) (zro _ _) hd K);rw[EP];clear EP;have H:=hid h;have a7:=h.lt;have E:=h.bz;obtain⟨SA,sc,rfl⟩:=h.sform;obtain⟨LA,lc,rfl⟩:=h.lform;obtain⟨b,off,rfl,hb,hc,hm,N⟩:=h.word (by omega);have a0:=hid N;have DG:=hid (fun W (hW:Fr [] w W)=>(h.go hW).three);unfold maxLen at hm;clear h hr N ok;generalize zb7 s now (wd l 0) (zg0 (z00 s now (wd l 0)).item left) (z00 s now (wd l 0)).til=s' at *;have H5:=hid (zl3 s now (wd l 0) (zg0 (z00 s now (wd l 0)).item left) (z00 s now (wd l 0)).til);generalize z2r s now (wd l 0) (zg0 (z00 s now (wd l 0)).item left) (z00 s now (wd l 0)).til=e at *;generalize zg0 (z00 s now (wd l 0)).item left=y at *;generalize zxi (z00 s now (wd l 0)).item left=a at *;generalize z1q (z00 s now (wd l 0)).item=j at *;generalize (z00 s now (wd l 0)).item=x at *;rcases ht with⟨rfl,rfl⟩|⟨rfl,rfl⟩
 all_goals
  by_cases hcc:j=0;have m:=hid trivial
  all_goals
   first
   | (guard_hyp m
      subst hcc;rw[Xf rfl,Xf rfl];obtain⟨sf,B⟩:∃sf,sf=(if e=0 then s' else s):=⟨_,rfl⟩;rw[←B];have C:=hid B;clear B)
   | (have q0:(j==0)=false:=by simpa using hcc
      rw[Xc hcc,Xc hcc];clear hcc)
   have Q:=zF w;have Q0:=zQ w;obtain⟨Z,d1,U⟩:=DG.o _ Q.o;have dw:=Q.o.cell (a0.o 0 (by omega)) (by simp);rw[Ye] at dw;go_enter func155,ntmps155;go_wp2_with fail;refine(DI.o _ Q.o).mono ?_;rintro e1 w1 ⟨xv,rfl,hi,R⟩;have F1:=hid (Q.o.trans R);have Q1:=hid (Q0.o.f0 R);have HI:=hid hi;obtain⟨X1,x1,X2,x2,X3,x3,rfl⟩:=hi.form;have hz1:=R.size;simp at hz1;clear R hi Z d1 U dw;have C1:=zC1 Q1 HI H F1;have p:=hid C1.o;obtain⟨Z,d1,U,d3,d4⟩:=five p.o.b;go_wp2_with fail;refine(OP.o _ _ p.o.i.item).mono ?_;rintro eq wq ⟨yv,rfl,K,fq⟩;have CN:=hid (p.o.go fq);have HY:=hid (K.less (show B0≤_ from p.o.d.bz));obtain⟨X,J,Y2,P,Y3,F,rfl⟩:=K.form;clear p K fq Z d1 U d3 d4;have p:=hid (CN.o.go ((Fr.refl [] wq).alloc (.cells (yIa y X J Y2 P Y3 F) 68)));have VB:=hid (Whole.new wq 68 (yIl y X J Y2 P Y3 F));have a2:=hid (HY.o.go ((Fr.refl [] wq).alloc (.cells (yIa y X J Y2 P Y3 F) 68)));have a8:=CN.o.f.size;obtain⟨m0,m1,m2,m3,m4⟩:=five VB.o
   first
   | (guard_hyp m
      go_wp2_with fail;refine(KP.o _ _ p.o.d a2.o).mono ?_;rintro e6 w6 ⟨rfl,f6,a6,a1,G⟩;have Q6:=hid (p.o.q.fr f6 (fun hm=>by have:=(H.o.low _ hm).2;omega));have F6:=hid (p.o.f.up.trans f6);have HD:=hid G;clear f6 a1 G m0 m1 m2 m3 m4;go_wp2_with fail;refine(zak a _).mono ?_;rintro e7 w7 ⟨rfl,D⟩;have F7:=hid D;clear D;go_wp2_with fail;refine(z6l (z1s a) _ e true (w.heap.size+1) _ (z1i.bare _ _ _ _ _)).mono ?_;rintro e8 L ⟨rfl,M⟩;have F8:=hid (F7.o.trans M);have Q8:=hid (Q6.o.f0 F8.o);have T:=hid (show z1i L (w.heap.size+1) (orV (.agg #[.int .i64 4,.string a,.int .i64 0,.slice none 0 0]) e true) (orR (z1s a) e true) from zc2 (z1i.bare _ _ _ _ _) e true);clear M
      have a4:=hid (show(orR (z1s a) e true).kind≠2→∃sv',Dr g B0 sv' now (.slice (some ⟨b,off,none⟩) l.length lc) l sf L from fun hk=>by
       by_cases hp:e=0
       ·rw[C.o,Xf hp];exact⟨_,(HD.o hp).go F8.o⟩
       ·rw[C.o,Xc hp];have h5:=H5.o;exact absurd (show(orR (z1s a) e true).kind=2 from by unfold orR;rw[Xc hp,Xc (fun h=>h5 h.1)];rfl) hk))
   | (clear m0 m1 m2 m3 m4
      go_wp2_with fail;refine(zak _ _).mono ?_;rintro e7 w7 ⟨rfl,D⟩;have C7:=hid (p.o.go D);clear D;go_wp2_with fail;refine(z6l (z1s a) _ j true (w.heap.size+1) _ (z1i.bare _ _ _ _ _)).mono ?_;rintro e8 L ⟨rfl,M⟩;have O:=hid (C7.o.go M);have T:=hid (show z1i L (w.heap.size+1) (orV (.agg #[.int .i64 4,.string a,.int .i64 0,.slice none 0 0]) j true) (orR (z1s a) j true) from zc2 (z1i.bare _ _ _ _ _) j true);clear M)
   obtain⟨S,r,hS⟩:=T.o.form;have A:=hid hS;clear hS;rw[A.o]
   first
   | (guard_hyp m
      have z:=hid (show z1i L (w.heap.size+1) (.agg #[.int .i64 (orR (z1s a) e true).kind,.string (orR (z1s a) e true).text,.int .i64 (orR (z1s a) e true).n,.slice S (orR (z1s a) e true).list.length r]) (orR (z1s a) e true) from by have:=T.o;rw[A.o] at this;exact this);generalize orR (z1s a) e true=V at *;obtain⟨y0,a5,a3,Y⟩:=four Q8.o;obtain⟨z0,z1,z2,z3⟩:=z1p Q8.o;go_wp2;refine Xg (v:=.agg (yRa V S r)) (by simp[results,results155,go_sem,y0,a5,a3,Y]) rfl ?_;exact ChD.fin4 z.o (F6.o.trans F8.o.up) Q8.o E a4.o)
   | (have z:=hid (show z1i _ _ (.agg #[.int .i64 (orR (z1s a) j true).kind,.string (orR (z1s a) j true).text,.int .i64 (orR (z1s a) j true).n,.slice S (orR (z1s a) j true).list.length r]) (orR (z1s a) j true) from by have:=T.o;rw[A.o] at this;exact this)
      generalize orR (z1s a) j true=V at *;obtain⟨y0,J,P,F⟩:=four O.o.q;obtain⟨z0,z1,z2,z3⟩:=z1p O.o.q;go_wp2;refine Xg (v:=.agg (yRa V S r)) (by simp[results,results155,go_sem,y0,J,P,F]) rfl ?_;exact ChD.fin4 z.o O.o.f.up O.o.q E (fun _=>⟨_,O.o.d⟩))
end
end Go.Proofs.YtnmoajaelmimnaaGreatDoor
