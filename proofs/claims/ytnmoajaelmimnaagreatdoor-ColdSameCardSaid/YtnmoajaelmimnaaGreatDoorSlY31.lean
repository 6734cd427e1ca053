/- Contracts; no condition but each theorem's own. -/
import Derived.Test.YtnmoajaelmimnaaGreatDoorSlY29
set_option linter.unusedVariables false
set_option linter.unusedSimpArgs false
set_option maxHeartbeats 8000000
set_option maxRecDepth 100000
namespace Go.Proofs.YtnmoajaelmimnaaGreatDoor
open Go.Proofs.Tryz
section
open Go.RowKit
theorem zuu:(prog.info? 68).map (fun i=>(i.zero,i.size,i.bytes))=some (some (.agg #[.int .i64 0,.string ⟨#[]⟩,.slice none 0 0,.slice none 0 0,.slice none 0 0]),5,96):=by kernel_rfl
def zxo(w0:World)(B0:Nat)(l:List Itm)(k:Nat)(A:YV)(c:Nat)(wr:World):Prop:=
 ∃rs:List (List Value),rs.length=k∧(∀(i:Nat) (x:Itm),(l.take k)[i]? = some x→∃cs:List Value,rs[i]? = some cs∧cs.length=5∧z0k wr B0 (.agg cs.toArray) x)∧wr.ownsRow w0.heap.size 68 5 (.slice A k c) k rs.flatten
theorem zxo.nil(w0)(B0:Nat)(l:List Itm)(wr):zxo w0 B0 l 0 none 0 wr:=⟨[],rfl,fun i x h=>by simp at h,World.ownsRow_nil _ _ _ _⟩
theorem zxo.items{w0 wr:World}{B0:Nat}{l:List Itm}{A:YV}{c:Nat}(h:zxo w0 B0 l l.length A c wr):z58 wr wr.heap.size (.slice A l.length c) l:=by
 obtain⟨e,j,f,h3⟩:=h;refine⟨A,c,e,rfl,j,fun i x k=>?_,z0l h3⟩;obtain⟨g,a,b,d⟩:=f i x (by rw[Ym];exact k);exact⟨g,a,b,d.item⟩
theorem zyx{y:Itm}{A1 A2 A3:YV}{c1 c2 c3:Nat}:∀u∈[Value.int .i64 y.kind,Value.string y.text,Value.slice A1 y.list.length c1,Value.slice A2 y.pairs.length c2,Value.slice A3 y.scores.length c3],u.oneCell'=true:=fun u hu=>by
 simp at hu;rcases hu with rfl|rfl|rfl|rfl|rfl <;> rfl
theorem zxo.snoc{w0 wr w5:World}{B0 k:Nat}{l:List Itm}{A A5:YV}{c c5:Nat}{y:Itm}{rs:List (List Value)}{cs:List Value}{o:Obj}(h1:rs.length=k)(h2:∀(i:Nat) (x),(l.take k)[i]? = some x→∃cs:List Value,rs[i]? = some cs∧cs.length=5∧z0k wr B0 (.agg cs.toArray) x)(h3:wr.ownsRow w0.heap.size 68 5 (.slice A k c) k rs.flatten)
  (hl:l[k]? = some y) (h5:cs.length=5) (hy:z0k wr B0 (.agg cs.toArray) y) (hg:(wr.alloc o).grownBy w5 (Value.slice A k c).ownBlock) (ho:w5.ownsRow w0.heap.size 68 5 (.slice A5 (k+1) c5) (k+1) (rs.flatten++cs)):zxo w0 B0 l (k+1) A5 c5 w5:=by
 have b:=z1u hg;have up:∀ {v x},z0k wr B0 v x→z0k w5 B0 v x:=fun h=>ze7 (h.go ((Fr.refl [] wr).alloc o)) (h3.alloc o) (by decide) b;refine⟨rs++[cs],by simp[h1],fun i x a=>?_,by simpa using ho⟩;rw[Xz,hl] at a;by_cases hi:i < k
 ·obtain⟨d,f,j,g⟩:=h2 i x (by
   rw[Xu (by simp;have:=(Xe.1 hl).1;omega)] at a;exact a)
  exact⟨d,by rw[Xu (by omega)];exact f,j,up g⟩
 ·have e:(l.take k).length=k:=by have:=(Xe.1 hl).1;simp;omega
  rw[Xq (by omega),e] at a
  have:i - k=0:=by
   rcases Yq (i - k) with h|h
   ·exact h
   ·rw[Uj (by simp;omega)] at a;cases a
  rw[this] at a;simp at a;subst a;exact⟨cs,by rw[Xq (by omega),h1,this];rfl,h5,up hy⟩
def q56(l:List Itm)(w:World)(e:Ending)(w':World):Prop:=∃u,e=.returned u∧z58 w' w'.heap.size u l∧Fr [] w w'
theorem zr2{s:List Ent}{now:Int}{l:YX}{k:Nat}(h:k < l.length):(z09 s now l)[k]? = some (z00 s now (wd l k)).item:=by
 unfold z09 wd;rw[Uc,Xa h,Xs,Xa h];rfl
theorem z7q{s:List Ent}(ok:z22 s)(now:Int)(l):∀x∈z09 s now l,x.Small:=fun x hx=>by
 obtain⟨k,_,rfl⟩:=Yt.1 hx;exact(z2n (z17 ok) now k).item
theorem znt{p:Nat→Bool→Bool}{s:List Ent}(ok:z22 s){now:Int}{l:YX}(h:l.length≤11):(z2x p (z09 s now l)).length≤1000:=by
 unfold z2x;split
 ·rename_i hc;unfold z13 at hc;by_cases h0:(z09 s now l).length=0
  ·rw[Xf h0] at hc;cases hc
  ·rw[Xc h0] at hc;have a:=zh3 (zck hc);have b:=zbh ((zcy (z09 s now l)).filter (pick p (z09 s now l)));have h3:=Xv (pick p (z09 s now l)) (zcy (z09 s now l));have h4:(z09 s now l).length=l.length:=by simp[z09]
   omega
 ·simp
theorem ze9(s)(now:Int)(l):(z09 s now l).length=l.length:=by simp[z09]
theorem zqh(g B0:Nat)(sv)(now:Int)(lv)(l:YX)(s)(w)(ok:z22 s)(h12:l.length≤11)(h:Dr g B0 sv now lv l s w):
  Calls prog 219 #[.pointer (some ⟨g,0,none⟩)] w (q56 (z09 s now l) w):=by
 obtain⟨i0,hi,hz0,hz1,hz2⟩:=info_parts zuu;have hr:=ok.rise;have Z:=ok.le;have DI:=hid (fun W k (hW:Fr [] w W)=>zjg g B0 sv now lv l s k W hr (by omega) (h.go hW));have H:=hid h;have a0:=h.bz;have V:=h.lt;obtain⟨SA,sc,rfl⟩:=h.sform;obtain⟨LA,lc,rfl⟩:=h.lform;have LL:=hid (ze9 s now l);have AT:=hid (fun k (N:k < l.length)=>zr2 (s:=s) (now:=now) N);have RN:=hid (zxo.nil w B0 (z09 s now l) w);obtain⟨J,Y,U⟩:=h.three;clear h hr ok;go_enter func219,ntmps219;go_wp2;go_loopg [3,11] l.length (fun y sl i wr=>∃(k:Nat) (A:YV) (z:Nat),y=l.length - k∧k≤l.length∧sl=.slice A k z∧i=.int .i64 k∧zxo w B0 (z09 s now l) k A z wr∧Fr [] w wr)
 case atStart=>exact⟨0,none,0,rfl,Xt _,rfl,rfl,RN.o,Fr.refl [] w⟩
 case round=>
  obtain⟨k,A,z,rfl,N,rfl,rfl,f,G⟩:=hrel;have R:=hid f;have F:=hid G;have a1:=G.size;clear f G;by_cases hlt:k < l.length
  ·obtain⟨b,off,rfl,hb,hc,hm,m⟩:=H.o.word (by omega);have xw:=F.o.cell (m k hlt) (by simp);have EA:=hid (AT.o k hlt);have DK:=hid (fun W (hW:Fr [] w W)=>DI.o W (wd l k) hW);unfold maxLen at hm;clear m J Y U;generalize wd l k=t at *;generalize (z00 s now t).item=y at *;go_wp2_with fail;refine(DK.o _ F.o).mono ?_;rintro e1 B ⟨u,rfl,I,n⟩;have F1:=hid (F.o.trans n);obtain⟨rs,Q,K,h3⟩:=R.o;have R1:=hid Q
   have R2:=hid (show ∀(i:Nat) (x:Itm),((z09 s now l).take k)[i]? = some x→∃p:List Value,rs[i]? = some p∧p.length=5∧z0k B B0 (.agg p.toArray) x from fun i x hx=>by
    obtain⟨p,q1,q2,q3⟩:=K i x hx;exact⟨p,q1,q2,q3.go n⟩)
   have C:=hid (z08 h3 n (by simp));have HU:=hid I;have X:=n.size;obtain⟨O,M,L,T,S,P,rfl⟩:=I.form;clear Q K h3 I n xw;have D:=hid (z0l (World.ownsRow_lit (base:=B.heap.size) (e:=68) (size:=5) B (yIa y O M L T S P) 1 (Xb _) (by decide) rfl));go_wp2_with (at_builtin;go_loud (refine z0c _ rfl _ _ 93 rfl w.heap.size 68 i0 _ 5 96 underlying93 hi hz0 hz1 hz2 rfl (by decide) _ _ _ rfl (C.o.alloc _) _ _ 1 _ rfl D.o zyx ?c1 ?c2 ?c3 ?_))
   case c1=>unfold maxLen;omega
   case c2=>omega
   case c3=>first|omega|(simp;omega)
   intro v' w5 d a r;have F5:=hid ((F1.o.alloc (.cells (yIa y O M L T S P) 68)).grown a (fun j hj=>.inr ((C.o.lt j hj).1)));obtain⟨A5,c5,rfl,-⟩:=z05 d;have E:=hid (zxo.snoc R1.o R2.o C.o EA.o rfl HU.o a d);clear d a r;go_wp2;go_roundg (l.length - (k+1))
   case measure=>omega
   case rel=>exact⟨k+1,A5,c5,rfl,by omega,rfl,by go_num,E.o,F5.o⟩
  ·obtain rfl:k=l.length:=by omega
   have HI:=hid (show z58 wr wr.heap.size (.slice A l.length z) (z09 s now l) from by
    have:=R.o;rw[←LL.o] at this ⊢;exact this.items)
   clear J Y U;go_wp2;go_ret;exact⟨_,rfl,HI.o,F.o⟩
section
variable (g B0:Nat) (sv:Value) (now:Int) (lv:Value) (l:YX) (s:List Ent) (c0:YY) (w:World)
theorem q13(ok:z22 s)(hn:1≤l.length)(h12:l.length≤11)(hz:∀t∈l,t.size≤60)(h:Dr g B0 sv now lv l s w):(Calls prog 156 #[.pointer (some ⟨g,0,none⟩),.string ⟨#[115,109,101,109,98,101,114,115]⟩] w (ChD g B0 B0 sv now lv l (doC .smembers s now (c0 :: l)) w))∧(Calls prog 156 #[.pointer (some ⟨g,0,none⟩),.string ⟨#[115,117,110,105,111,110]⟩] w (ChD g B0 B0 sv now lv l (doC .sunion s now (c0 :: l)) w))∧(Calls prog 156 #[.pointer (some ⟨g,0,none⟩),.string ⟨#[115,105,110,116,101,114]⟩] w (ChD g B0 B0 sv now lv l (doC .sinter s now (c0 :: l)) w))∧(Calls prog 156 #[.pointer (some ⟨g,0,none⟩),.string ⟨#[115,100,105,102,102]⟩] w (ChD g B0 B0 sv now lv l (doC .sdiff s now (c0 :: l)) w)):=by
 refine⟨?_,?_,?_,?_⟩;have L:=hid trivial
 rotate_left
 have G:=hid trivial
 rotate_left
 have e:=hid trivial
 rotate_left
 have j:=hid trivial
 all_goals
  have hr:=ok.rise;have r:=ok.le;have DI:=zDI hr r h
  first
  | (guard_hyp L
     have p:doC .smembers s now (c0 :: l)=(s,orR (z2h (z2x zau (z09 s now l))) (z13 (z09 s now l)) false):=by
      show fin s now (wd l 0) (z00 s now (wd l 0)).item (z00 s now (wd l 0)).til false false (z13 (z09 s now l)) (z2h (z2x zau (z09 s now l)))=_;exact z2g _ _ _ _ _ _ _ _)
  | (guard_hyp G
     have p:doC .sunion s now (c0 :: l)=(s,orR (z2h (z2x zau (z09 s now l))) (z13 (z09 s now l)) false):=by
      show fin s now (wd l 0) (z00 s now (wd l 0)).item (z00 s now (wd l 0)).til false false (z13 (z09 s now l)) (z2h (z2x zau (z09 s now l)))=_;exact z2g _ _ _ _ _ _ _ _)
  | (guard_hyp e
     have p:doC .sinter s now (c0 :: l)=(s,orR (z2h (z2x (zc0 (z09 s now l).length) (z09 s now l))) (z13 (z09 s now l)) false):=by
      show fin s now (wd l 0) (z00 s now (wd l 0)).item (z00 s now (wd l 0)).til false false (z13 (z09 s now l)) (z2h (z2x (zc0 (z09 s now l).length) (z09 s now l)))=_;exact z2g _ _ _ _ _ _ _ _)
  | (have p:doC .sdiff s now (c0 :: l)=(s,orR (z2h (z2x za3 (z09 s now l))) (z13 (z09 s now l)) false):=by
      show fin s now (wd l 0) (z00 s now (wd l 0)).item (z00 s now (wd l 0)).til false false (z13 (z09 s now l)) (z2h (z2x za3 (z09 s now l)))=_;exact z2g _ _ _ _ _ _ _ _)
  have IL:=ze9 s now l
  first
  | (guard_hyp e
     have a:(z2x (zc0 (z09 s now l).length) (z09 s now l)).length≤1000:=znt ok (by omega);have J:=hid (fun(W:World) u (k:Sl W W.heap.size 1 u (z2x (zc0 (z09 s now l).length) (z09 s now l)).length (z03 (z2x (zc0 (z09 s now l).length) (z09 s now l))))=>z3g (z2x (zc0 (z09 s now l).length) (z09 s now l)) u (z13 (z09 s now l)) W a k))
  | (guard_hyp j
     have a:(z2x za3 (z09 s now l)).length≤1000:=znt ok (by omega);have J:=hid (fun(W:World) u (k:Sl W W.heap.size 1 u (z2x za3 (z09 s now l)).length (z03 (z2x za3 (z09 s now l))))=>z3g (z2x za3 (z09 s now l)) u (z13 (z09 s now l)) W a k))
  | (have a:(z2x zau (z09 s now l)).length≤1000:=znt ok (by omega)
     have J:=hid (fun(W:World) u (k:Sl W W.heap.size 1 u (z2x zau (z09 s now l)).length (z03 (z2x zau (z09 s now l))))=>z3g (z2x zau (z09 s now l)) u (z13 (z09 s now l)) W a k))
  have IT:=hid (fun W (hd:Dr g B0 sv now lv l s W)=>zqh g B0 sv now lv l s W ok h12 hd)
  first
  | (guard_hyp e
     have K:=hid (fun(W:World) u (k:z58 W W.heap.size u (z09 s now l))=>zns (z09 s now l) u W W.heap.size (z7q ok now l) (by omega) (Xb _) k))
  | (guard_hyp j
     have K:=hid (fun(W:World) u (k:z58 W W.heap.size u (z09 s now l))=>znr (z09 s now l) u W W.heap.size (z7q ok now l) (by omega) (Xb _) k))
  | (have K:=hid (fun(W:World) u (k:z58 W W.heap.size u (z09 s now l))=>znq (z09 s now l) u W W.heap.size (z7q ok now l) (by omega) (Xb _) k))
  rw[p];clear p a IL;have H:=hid h;have a0:=h.lt;have D:=h.bz;obtain⟨SA,sc,rfl⟩:=h.sform;obtain⟨LA,lc,rfl⟩:=h.lform;obtain⟨b,off,rfl,hb,hc,hm,z⟩:=h.word (by omega);have E:=hid z;have DG:=hid (fun W (hW:Fr [] w W)=>(h.go hW).three);unfold maxLen at hm;clear h hr z ok
  first
  | (guard_hyp e
     generalize z2x (zc0 (z09 s now l).length) (z09 s now l)=O at *)
  | (guard_hyp j
     generalize z2x za3 (z09 s now l)=O at *)
  | (generalize z2x zau (z09 s now l)=O at *)
  generalize z13 (z09 s now l)=cc at *;generalize (z00 s now (wd l 0)).item=x at *;generalize orR (z2h O) cc false=Y at *;have B:=zF w;have Q0:=zQ w;obtain⟨d0,d1,X⟩:=DG.o _ B.o;have R:=B.o.cell (E.o 0 (by omega)) (by simp);rw[Ye] at R;go_enter func156,ntmps156;go_wp2_with fail;refine(DI.o _ B.o).mono ?_;rintro e1 w1 ⟨xv,rfl,hi,C⟩;have F1:=hid (B.o.trans C);have Q1:=hid (Q0.o.f0 C);have HI:=hid hi;obtain⟨X1,x1,X2,x2,X3,x3,rfl⟩:=hi.form;have hz1:=C.size;simp at hz1;clear C hi d0 d1 X R;have U:=zC1 Q1 HI H F1;go_wp2_with fail;refine(IT.o _ U.o.d).mono ?_;rintro e2 w2 ⟨u2,rfl,n,P⟩;have C2:=hid (U.o.go P);have F:=hid n;clear n P;go_wp2_with fail;refine(K.o _ _ F.o).mono ?_;rintro e3 w3 ⟨u3,rfl,y,V⟩;have Q:=hid (C2.o.go V);have I:=hid (z0l y);clear y V;go_wp2_with fail;refine(J.o _ _ I.o).mono ?_;rintro e8 w8 ⟨u8,rfl,m,T⟩;have A:=hid (Q.o.go T);have M:=hid (m.base (show w.heap.size+1≤_ from Q.o.q.lt));obtain⟨S,N,rfl⟩:=m.form;clear m T;obtain⟨y0,y1,y2,Z⟩:=four A.o.q;obtain⟨z0,z1,z2,z3⟩:=z1p A.o.q;go_wp2;refine Xg (v:=.agg (yRa Y S N)) (by simp[results,results156,go_sem,y0,y1,y2,Z]) rfl ?_;exact ChD.fin4 M.o A.o.f.up A.o.q D (fun _=>⟨_,A.o.d⟩)
abbrev zmf:=fun g B0 sv now lv l s c0 w ok hn h12 hz h=>@And.left _ _ (q13 g B0 sv now lv l s c0 w ok hn h12 hz h)
abbrev zu2:=fun g B0 sv now lv l s c0 w ok hn h12 hz h=>@And.left _ _ (@And.right _ _ (q13 g B0 sv now lv l s c0 w ok hn h12 hz h))
abbrev zu0:=fun g B0 sv now lv l s c0 w ok hn h12 hz h=>@And.left _ _ (@And.right _ _ (@And.right _ _ (q13 g B0 sv now lv l s c0 w ok hn h12 hz h)))
abbrev zyr:=fun g B0 sv now lv l s c0 w ok hn h12 hz h=>@And.right _ _ (@And.right _ _ (@And.right _ _ (q13 g B0 sv now lv l s c0 w ok hn h12 hz h)))
def z7j(l:List (YY×YY)):YX:=l.flatMap fun p=>[p.1,p.2]
theorem zqw{l:List (YY×YY)}{k:Nat}{q:YY×YY}(h:l[k]? = some q):z7j (l.take (k+1))=z7j (l.take k)++[q.1,q.2]:=by
 unfold z7j;rw[Xz,h];simp
theorem zwt(w:World)(o:Obj)(a b):Sl ((w.alloc o).alloc (.cells #[.string a,.string b] 9)) ((w.alloc o).alloc (.cells #[.string a,.string b] 9)).heap.size 1 (.slice (some ⟨w.heap.size+1,0,none⟩) 2 2) 2 (z03 [a,b]):=by
 have:=z0l (World.ownsRow_lit (base:=(w.alloc o).heap.size) (e:=9) (size:=1) (w.alloc o) #[.string a,.string b] 2 (Xb _) (by decide) rfl);rwa[show(w.alloc o).heap.size=w.heap.size+1 from by simp] at this
theorem zjy(l:List (YY×YY)):(z7j l).length=2 * l.length:=by
 unfold z7j
 induction l with
 | nil=>rfl
 | cons a r ih=>rw[Ul,Xk,ih,Xy,Xy,Xy,List.length_nil];omega
theorem zqm(ok:z22 s)(hn:1≤l.length)(h12:l.length≤11)(hz:∀t∈l,t.size≤60)(h:Dr g B0 sv now lv l s w):
  Calls prog 157 #[.pointer (some ⟨g,0,none⟩),.string ⟨#[104,103,101,116,97,108,108]⟩] w (ChD g B0 B0 sv now lv l (doC .hgetall s now (c0 :: l)) w):=by
 have hr:=ok.rise;have G:=ok.le;have DI:=zDI hr G h;have LS:=hid (z2n (z17 ok) now (wd l 0)).item
 have ac:((z00 s now (wd l 0)).item).pairs.length≤24:=by
  rcases z62 ok now (wd l 0) with⟨h1,_⟩|⟨h1,_⟩
  ·rw[h1];decide
  ·have:=(z2t h1).many;unfold many at this;omega
 have EP:doC .hgetall s now (c0 :: l)=(s,orR (z2h (z7j ((z00 s now (wd l 0)).item).pairs)) (z02 4 (z00 s now (wd l 0)).item) false):=by
  show fin s now (wd l 0) (z00 s now (wd l 0)).item (z00 s now (wd l 0)).til false false (z02 4 (z00 s now (wd l 0)).item) (z2h (z7j ((z00 s now (wd l 0)).item).pairs))=_;exact z2g _ _ _ _ _ _ _ _
 have E:(z7j ((z00 s now (wd l 0)).item).pairs).length≤1000:=by rw[zjy];omega
 have DL:=hid (fun(W:World) u (k:Sl W W.heap.size 1 u (z7j ((z00 s now (wd l 0)).item).pairs).length (z03 (z7j ((z00 s now (wd l 0)).item).pairs)))=>z3g (z7j ((z00 s now (wd l 0)).item).pairs) u (z02 4 (z00 s now (wd l 0)).item) W E k);have OP:=hid (fun W u (k:z0p W W.heap.size u (z00 s now (wd l 0)).item)=>zcl (z00 s now (wd l 0)).item u [] none 0 W W.heap.size LS.o (Xb _) k (by show 0≤_;omega) (Sl.nil _ _ _));obtain⟨i0,a4,J,O,B⟩:=info_parts z2y;rw[EP];clear EP E;have H:=hid h;have I:=h.lt;have a0:=h.bz;obtain⟨SA,sc,rfl⟩:=h.sform;obtain⟨LA,lc,rfl⟩:=h.lform;obtain⟨b,off,rfl,hb,hc,hm,P⟩:=h.word (by omega);have a2:=hid P;have DG:=hid (fun W (hW:Fr [] w W)=>(h.go hW).three);unfold maxLen at hm;clear h hr P ok;generalize orR (z2h (z7j ((z00 s now (wd l 0)).item).pairs)) (z02 4 (z00 s now (wd l 0)).item) false=q9 at *;generalize zd0 (z00 s now (wd l 0)).item []=dy at *;generalize zjk (z00 s now (wd l 0)).item []=dn at *;generalize z02 4 (z00 s now (wd l 0)).item=cc at *;generalize (z00 s now (wd l 0)).item=x at *;have Y:=zF w;have Q0:=zQ w;obtain⟨D,K,A⟩:=DG.o _ Y.o;have dw:=Y.o.cell (a2.o 0 (by omega)) (by simp);rw[Ye] at dw;go_enter func157,ntmps157;go_wp2_with fail;refine(DI.o _ Y.o).mono ?_;rintro e1 w1 ⟨xv,rfl,hi,f1⟩;have F1:=hid (Y.o.trans f1);have Q1:=hid (Q0.o.f0 f1);have HI:=hid hi;obtain⟨X1,x1,X2,x2,X3,x3,rfl⟩:=hi.form;have hz1:=f1.size;simp at hz1;clear f1 hi D K A dw;have C1:=zC1 Q1 HI H F1;obtain⟨D,K,A,d3,d4⟩:=five C1.o.b;go_wp2_with fail;refine(OP.o _ _ C1.o.i.item).mono ?_;rintro e2 T ⟨u2,rfl,C,f2⟩;have C2:=hid (C1.o.go f2);have aa:=hid f2;obtain⟨P1,p1,P2,V,Z,U,rfl⟩:=C.form;have C3:=hid (C2.o.go ((Fr.refl [] T).alloc (.cells (yIa dy P1 p1 P2 V Z U) 68)));clear C f2 D K A d3 d4;obtain⟨n,p⟩:∃n,n=T.alloc (.cells (yIa dy P1 p1 P2 V Z U) 68):=⟨_,rfl⟩;rw[←p] at C3;have a6:=hid p;have Q:=hid (show Fr [] n (T.alloc (.cells (yIa dy P1 p1 P2 V Z U) 68)) from p ▸ Fr.refl [] n);have O3:=hid (show(T.alloc (.cells (yIa dy P1 p1 P2 V Z U) 68)).ownsRow n.heap.size 9 1 (.slice none 0 0) 0 (z03 (z7j (x.pairs.take 0))) from World.ownsRow_nil _ _ _ _);clear p;have ab:=C3.o.f.size;obtain⟨v1,v2,v3,hv,o1,o2,o3⟩:=HI.o;have S2:=hid (z0l o2);have L:v2=.slice X2 x.pairs.length x2:=by cases hv;rfl
 rw[L] at S2;clear hv o1 o2 o3 L;obtain⟨D,K,A,d3,d4⟩:=five (C3.o.go Q.o).b;go_wp2;clear D K A d3 d4;go_loopg [19,119] x.pairs.length (fun y sl i wr=>∃(k:Nat) (X:YV) (co:Nat),y=x.pairs.length - k∧k≤x.pairs.length∧sl=.slice X (2 * k) co∧i=.int .i64 k∧wr.ownsRow n.heap.size 9 1 (.slice X (2 * k) co) (2 * k) (z03 (z7j (x.pairs.take k)))∧Fr [] n wr)
 case atStart=>exact⟨0,none,0,rfl,Xt _,rfl,rfl,O3.o,Q.o⟩
 case round=>
  obtain⟨k,X,co,rfl,hk,rfl,rfl,a,hf⟩:=hrel;have HO:=hid a;have F:=hid hf;have CR:=hid (C3.o.go hf);have af:=hf.size;clear a hf;by_cases I:k < x.pairs.length
  ·obtain⟨b2,r,rfl,ae,ad,a3,e⟩:=S2.o.at_ (by omega);obtain⟨q,hq⟩:∃q,x.pairs[k]? = some q:=⟨_,Xa I⟩;have FP:=hid (zqw hq)
   have N:Hid (Fr [] w1 wr):=hid (by
    have g1:Fr [] w1 T:=((Fr.refl [] w1).alloc _).trans aa.o;exact(a6.o ▸ g1.alloc _:Fr [] w1 n).trans F.o)
   have t1:wr.cell? ⟨b2,r+2 * k,none⟩=some (.string q.1):=N.o.cell (e _ _ (z0f _ k q hq).1) (by simp);have t2:wr.cell? ⟨b2,r+2 * k+1,none⟩=some (.string q.2):=N.o.cell (e _ _ (z0f _ k q hq).2) (by simp);rw[Ya 2 k] at t1 t2;unfold maxLen at a3;clear e hq;have a5:=hid (zwt wr (.cells #[.string q.1,.string q.2] 97) q.1 q.2);go_wp2_with (at_builtin;go_loud (refine z0c _ rfl _ _ 24 rfl n.heap.size 9 i0 _ 1 16 underlying24 a4 J O B rfl (by decide) _ _ _ rfl ((HO.o.alloc _).alloc _) _ _ 2 _ rfl a5.o (z2z [q.1,q.2]) ?c1 ?c2 ?c3 ?_))
   case c1=>unfold maxLen;omega
   case c2=>omega
   case c3=>first|omega|(simp;omega)
   intro v' w5 a m M;have F5:=hid (((F.o.alloc (.cells #[.string q.1,.string q.2] 97)).alloc (.cells #[.string q.1,.string q.2] 9)).grown m (fun j hj=>.inr ((HO.o.lt j hj).1)));obtain⟨A5,c5,rfl,-⟩:=z05 a
   have a1:=hid (show w5.ownsRow n.heap.size 9 1 (.slice A5 (2 * (k+1)) c5) (2 * (k+1)) (z03 (z7j (x.pairs.take (k+1)))) from by
    rw[FP.o];have:=a;rw[show z03 (z7j (x.pairs.take k)++[q.1,q.2])=z03 (z7j (x.pairs.take k))++z03 [q.1,q.2] from by simp[z03]];exact this)
   have E2:=hid (show 2 * k+2=2 * (k+1) from by omega);clear a m M;go_wp2;go_roundg (x.pairs.length - (k+1))
   case measure=>omega
   case rel=>exact⟨k+1,A5,c5,rfl,by omega,by rw[←E2.o],by go_num,a1.o,F5.o⟩
  ·obtain rfl:k=x.pairs.length:=by omega
   have a9:=hid (show Sl wr wr.heap.size 1 (.slice X (2 * x.pairs.length) co) (z7j x.pairs).length (z03 (z7j x.pairs)) from by
    have:=z0l HO.o;rw[Ym] at this;rw[zjy];exact this)
   go_wp2_with fail;refine(DL.o _ _ a9.o).mono ?_;rintro e8 w8 ⟨u8,rfl,z,f8⟩;have R:=hid (CR.o.go f8);have a7:=hid (z.base (show w.heap.size+1≤_ from CR.o.q.lt));obtain⟨S,a8,rfl⟩:=z.form;clear z f8;obtain⟨y0,y1,y2,y3⟩:=four R.o.q;obtain⟨z0,z1,z2,z3⟩:=z1p R.o.q;go_wp2;refine Xg (v:=.agg (yRa q9 S a8)) (by simp[results,results157,go_sem,y0,y1,y2,y3]) rfl ?_;exact ChD.fin4 a7.o R.o.f.up R.o.q a0 (fun _=>⟨_,R.o.d⟩)
end
theorem zgp:∀(l:YX) (k:Nat),2 * k+1 < l.length→(z2o l)[k]? = some (wd l (2 * k),wd l (2 * k+1))
 | [],_,h=>by simp at h
 | [a],k,h=>by simp at h
 | a :: b :: l,0,_=>rfl
 | a :: b :: l,k+1,h=>by
  have:=zgp l k (by simp at h;omega);show(z2o l)[k]? = _;rw[this];rfl
theorem zf0:∀(l:YX) (m:Nat),l.length=2 * m→(z2o l).length=m
 | [],m,h=>by
  have:m=0:=by simp at h;omega
  subst this;rfl
 | [a],m,h=>by simp at h;omega
 | a :: b :: l,0,h=>by simp at h
 | a :: b :: l,m+1,h=>by
  show(z2o l).length+1=_;rw[zf0 l m (by simp at h;omega)]
theorem zx5{a b:Value}{h:([a,b].all Value.oneCell')=true}:∀u∈[a,b],u.oneCell'=true:=fun u hu=>Jb.1 h u hu
theorem zkx{l:YX}{k:Nat}(h:2 * k+2 < l.length):(z2o (l.drop 1))[k]? = some (wd l (2 * k+1),wd l (2 * k+2)):=by
 have:=zgp (l.drop 1) k (by rw[Xr];omega);rw[this]
 have e:∀j,wd (l.drop 1) j=wd l (j+1):=fun j=>by
  unfold wd;rw[Xs,Xs,Yg,Nat.add_comm]
 rw[e,e]
theorem zfe:∀(l:YX) (k:Nat),2 * k+1 < l.length→(z1l l)[k]? = some ((z5l (wd l (2 * k)).data.toList).getD 0,wd l (2 * k+1))
 | [],_,h=>by simp at h
 | [a],k,h=>by simp at h
 | a :: b :: l,0,_=>rfl
 | a :: b :: l,k+1,h=>by
  have:=zfe l k (by simp at h;omega);show(z1l l)[k]? = _;rw[this];rfl
theorem zct:∀(l:YX) (m:Nat),l.length=2 * m→(z1l l).length=m
 | [],m,h=>by
  have:m=0:=by simp at h;omega
  subst this;rfl
 | [a],m,h=>by simp at h;omega
 | a :: b :: l,0,h=>by simp at h
 | a :: b :: l,m+1,h=>by
  show(z1l l).length+1=_;rw[zct l m (by simp at h;omega)]
theorem zig{l:YX}{k:Nat}(h:2 * k+2 < l.length):(z1l (l.drop 1))[k]? = some ((z5l (wd l (2 * k+1)).data.toList).getD 0,wd l (2 * k+2)):=by
 have:=zfe (l.drop 1) k (by rw[Xr];omega);rw[this]
 have e:∀j,wd (l.drop 1) j=wd l (j+1):=fun j=>by
  unfold wd;rw[Xs,Xs,Yg,Nat.add_comm]
 rw[e,e]
theorem tw2x:(∀(g B0:Nat) (sv) (now:Int) (lv) (l:YX) (s) (c0) (w) (ok:z22 s) (hn:3≤l.length) (h12:l.length≤11) (hz:∀t∈l,t.size≤60) (mm:Nat) (hmm:l.length=2 * mm+1) (h:Dr g B0 sv now lv l s w),Calls prog 157 #[.pointer (some ⟨g,0,none⟩),.string ⟨#[104,115,101,116]⟩] w (ChD g B0 B0 sv now lv l (doC .hset s now (c0 :: l)) w))∧(∀(g B0:Nat) (sv) (now:Int) (lv) (l:YX) (s) (c0) (w) (ok:z22 s) (hn:3≤l.length) (h12:l.length≤11) (hz:∀t∈l,t.size≤60) (mm:Nat) (hmm:l.length=2 * mm+1) (hnum:∀k,2 * k+2 < l.length→(z5l (wd l (2 * k+1)).data.toList).isSome=true) (hv:Vars w) (h:Dr g B0 sv now lv l s w),Calls prog 158 #[.pointer (some ⟨g,0,none⟩),.string ⟨#[122,97,100,100]⟩] w (ChD g B0 B0 sv now lv l (doC .zadd s now (c0 :: l)) w)):=by
 refine⟨?_,?_⟩;have n:=hid trivial
 rotate_left
 have b4:=hid trivial
 all_goals
  first
  | (guard_hyp n
     intro g B0 sv now lv l s c0 w ok hn h12 hz mm hmm h)
  | (intro g B0 sv now lv l s c0 w ok hn h12 hz mm hmm hnum hv h)
  have hr:=ok.rise;have a5:=ok.le;have DI:=zDI hr a5 h;have LS:=hid (z2n (z17 ok) now (wd l 0)).item
  first
  | (guard_hyp n
     obtain⟨i0,a0,I,L,D⟩:=info_parts z9d;have EP:doC .hset s now (c0 :: l)=fin s now (wd l 0) (zsf (z00 s now (wd l 0)).item (z2o (l.drop 1))) (z00 s now (wd l 0)).til true false (z23 (z00 s now (wd l 0)).item (z2o (l.drop 1))) (z0s (q1t (z00 s now (wd l 0)).item (z2o (l.drop 1)))):=rfl;have SY:=hid (show(zsf (z00 s now (wd l 0)).item (z2o (l.drop 1))).Small from zrw _ _);have G:=zf0 (l.drop 1) mm (by rw[Xr];omega);have OP:=hid (fun W u A c (k:z0p W W.heap.size u (z00 s now (wd l 0)).item) (q:Sl W W.heap.size 2 (.slice A (z2o (l.drop 1)).length c) (z2o (l.drop 1)).length (z0e (z2o (l.drop 1))))=>zms (z00 s now (wd l 0)).item u (z2o (l.drop 1)) A c W W.heap.size LS.o (Xb _) k (by rw[G];omega) q);generalize zsf (z00 s now (wd l 0)).item (z2o (l.drop 1))=y at *;generalize q1t (z00 s now (wd l 0)).item (z2o (l.drop 1))=nn at *;generalize z23 (z00 s now (wd l 0)).item (z2o (l.drop 1))=cc at *)
  | (obtain⟨i0,a0,I,L,D⟩:=info_parts z67
     have EP:doC .zadd s now (c0 :: l)=fin s now (wd l 0) (zd2 (z00 s now (wd l 0)).item (z1l (l.drop 1))) (z00 s now (wd l 0)).til true false (zf1 (z00 s now (wd l 0)).item (z1l (l.drop 1))) (z0s (zl1 (z00 s now (wd l 0)).item (z1l (l.drop 1)))):=rfl;have SY:=hid (show(zd2 (z00 s now (wd l 0)).item (z1l (l.drop 1))).Small from znf _ _);have G:=zct (l.drop 1) mm (by rw[Xr];omega);have OP:=hid (fun W u A c (k:z0p W W.heap.size u (z00 s now (wd l 0)).item) (q:Sl W W.heap.size 2 (.slice A (z1l (l.drop 1)).length c) (z1l (l.drop 1)).length (z06 (z1l (l.drop 1))))=>zlb (z00 s now (wd l 0)).item u (z1l (l.drop 1)) A c W W.heap.size LS.o (Xb _) k (by rw[G];omega) q);generalize zd2 (z00 s now (wd l 0)).item (z1l (l.drop 1))=y at *;generalize zl1 (z00 s now (wd l 0)).item (z1l (l.drop 1))=nn at *;generalize zf1 (z00 s now (wd l 0)).item (z1l (l.drop 1))=cc at *)
  have CH:=zCH g B0 sv now lv l s w y (z0s nn) cc ok (by omega) SY
  first
  | (guard_hyp n
     have a8:=hid (fun k (hk:2 * k+2 < l.length)=>zkx hk))
  | (have a8:=hid (fun k (hk:2 * k+2 < l.length)=>zig hk))
  have S:=hid G;have am:=hid hmm;rw[EP];clear EP SY G hmm
  first
  | (guard_hyp n
     skip)
  | (have IK:=hid (fun(k:Nat) W (hk:2 * k+2 < l.length) (hW:Fr [] w W)=>(show Calls prog 200 #[.pointer (some ⟨g,0,none⟩),.int .i64 ((2 * k+1:Nat):Int)] W (fun e w'=>e=.returned (.int .i64 ((z5l (wd l (2 * k+1)).data.toList).getD 0))∧Fr [] W w') from by
      obtain⟨v,ae⟩:=Yo.1 (hnum k hk);rw[ae];exact zhc g B0 sv now lv l s (2 * k+1) v W (by omega) (fun t ht=>by have:=hz t ht;omega) ae (hv.fr hW) (h.go hW)))
     clear hnum hv)
  have H:=hid h;have a6:=h.lt;have ag:=h.bz;obtain⟨SA,sc,rfl⟩:=h.sform;obtain⟨LA,lc,rfl⟩:=h.lform;obtain⟨b,off,rfl,hb,hc,hm,ac⟩:=h.word (by omega);have Z:=hid ac;have DG:=hid (fun W (hW:Fr [] w W)=>(h.go hW).three);unfold maxLen at hm;clear h hr ac ok;generalize fin s now (wd l 0) y (z00 s now (wd l 0)).til true false cc (z0s nn)=pp at *;generalize (z00 s now (wd l 0)).item=x at *
  first
  | (guard_hyp n
     generalize z2o (l.drop 1)=C at *)
  | (generalize z1l (l.drop 1)=C at *)
  have F0:=zF w;have Q0:=zQ w;obtain⟨d0,d1,d2⟩:=DG.o _ F0.o;have dw:=F0.o.cell (Z.o 0 (by omega)) (by simp);rw[Ye] at dw
  first
  | (guard_hyp n
     go_enter func157,ntmps157)
  | (go_enter func158,ntmps158)
  go_wp2_with fail;refine(DI.o _ F0.o).mono ?_;rintro N w1 ⟨xv,rfl,hi,f1⟩;have F1:=hid (F0.o.trans f1);have Q1:=hid (Q0.o.f0 f1);have HI:=hid hi;obtain⟨X1,x1,X2,x2,X3,x3,rfl⟩:=hi.form;have hz1:=f1.size;simp at hz1;clear f1 hi d0 d1 d2 dw;have C1:=zC1 Q1 HI H F1;obtain⟨B,a2⟩:∃B,B=w1.alloc (.cells (yIa x X1 x1 X2 x2 X3 x3) 68):=⟨_,rfl⟩;have C3:=hid (show Cw g B0 _ now _ l s w1.heap.size (yIl x X1 x1 X2 x2 X3 x3) x w B from a2 ▸ C1.o);have aq:=hid (show Fr [] B (w1.alloc (.cells (yIa x X1 x1 X2 x2 X3 x3) 68)) from a2 ▸ Fr.refl [] B)
  first
  | (guard_hyp n
     have O3:=hid (show(w1.alloc (.cells (yIa x X1 x1 X2 x2 X3 x3) 68)).ownsRow B.heap.size 97 2 (.slice none 0 0) 0 (z0e (C.take 0)) from World.ownsRow_nil _ _ _ _))
  | (have O3:=hid (show(w1.alloc (.cells (yIa x X1 x1 X2 x2 X3 x3) 68)).ownsRow B.heap.size 102 2 (.slice none 0 0) 0 (z06 (C.take 0)) from World.ownsRow_nil _ _ _ _))
  have b1:=C3.o.f.size;have b5:b < w.heap.size:=by omega
  clear a2 C1;go_wp2
  first
  | (guard_hyp n
     go_loopg [6,7] mm (fun yy sl i wr=>∃(k:Nat) (Q:YV) (U:Nat),yy=mm - k∧k≤mm∧sl=.slice Q k U∧i=.int .i64 ((2 * k+1:Nat):Int)∧wr.ownsRow B.heap.size 97 2 (.slice Q k U) k (z0e (C.take k))∧Fr [] B wr))
  | (go_loopg [6,7] mm (fun yy sl i wr=>∃(k:Nat) (Q:YV) (U:Nat),yy=mm - k∧k≤mm∧sl=.slice Q k U∧i=.int .i64 ((2 * k+1:Nat):Int)∧wr.ownsRow B.heap.size 102 2 (.slice Q k U) k (z06 (C.take k))∧Fr [] B wr))
  case atStart=>exact⟨0,none,0,rfl,Xt _,rfl,rfl,O3.o,aq.o⟩
  case round=>
   obtain⟨k,Q,U,rfl,hk,rfl,rfl,a,hf⟩:=hrel;have HO:=hid a;have F:=hid hf;have V:=hid (C3.o.go hf);have ao:=hf.size;have ab:=am.o;clear a hf;by_cases a6:k < mm
   ·
    have Y:2 * k+2 < l.length:=by omega
    have PK:=hid (a8.o k Y);have r:=hid (Z.o (2 * k+1) (by omega));have z:=hid (Z.o (2 * k+2) (by omega));have N:=V.o.f.cell r.o (by simp);have X:=V.o.f.cell z.o (by simp);have O:=V.o.d.three.2.2
    first
    | (guard_hyp n
       have TK:Hid (z0e (C.take (k+1))=z0e (C.take k)++[.string (wd l (2 * k+1)),.string (wd l (2 * k+2))]):=hid (by
        rw[Xz,PK.o];simp[z0e]))
    | (have TK:Hid (z06 (C.take (k+1))=z06 (C.take k)++[.int .i64 ((z5l (wd l (2 * k+1)).data.toList).getD 0),.string (wd l (2 * k+2))]):=hid (by
        rw[Xz,PK.o];simp[z06])
       have IQ:=hid (fun W hW=>IK.o k W Y hW))
    generalize hq1:wd l (2 * k+1)=T at *;generalize hq2:wd l (2 * k+2)=M at *;clear hq1 hq2 PK
    first
    | (guard_hyp n
       skip)
    | (generalize (z5l T.data.toList).getD 0=n1 at *)
    obtain⟨m,J⟩:∃m,m=2 * k+1:=⟨_,rfl⟩;have ad:2 * k+2=m+1:=by omega
    rw[ad] at X z
    first
    | (guard_hyp n
       rw[←J] at N r )
    | (rw[←J] at N r IQ)
    rw[←J];have ap:=hid J;have b0:(0:Int)≤(m:Int):=by omega
    have ax:(m:Int) < (l.length:Int):=by omega
    have ay:(0:Int)≤(m:Int)+1:=by omega
    have b3:(m:Int)+1 < (l.length:Int):=by omega
    have b6:m+1 < l.length:=by omega
    have av:m < l.length:=by omega
    have jw:IntKind.i64.wrap ((m:Int)+1)=(m:Int)+1:=IntWalk.i64_in _ (by omega);have jt:((m:Int)+1).toNat=m+1:=by omega
    have b7:k+1≤9223372036854775807:=by omega
    first
    | (guard_hyp n
       have ak:(k+1) * 32≤140737488355328:=by omega)
    | (have ak:(k+1) * 24≤140737488355328:=by omega)
    have ba:B.heap.size≤wr.heap.size:=ao;clear J ad Y ab
    first
    | (guard_hyp n
       have FQ:=hid (show((wr.alloc (.cells #[.string T,.string M] 97)).drew).ownsRow B.heap.size 97 2 (.slice Q k U) k (z0e (C.take k)) from HO.o.alloc _);have a1:=hid (show Sl ((wr.alloc (.cells #[.string T,.string M] 97)).drew) ((wr.alloc (.cells #[.string T,.string M] 97)).drew).heap.size 2 (.slice (some ⟨wr.heap.size,0,none⟩) 1 1) 1 [.string T,.string M] from z0l (World.ownsRow_lit (base:=wr.heap.size) (e:=97) (size:=2) wr #[.string T,.string M] 1 (Xb _) (by decide) rfl));have FB:=hid (F.o.alloc (.cells #[.string T,.string M] 97)).drew;go_upto_region 8 with fail;go_region_held3 (fun P=>P.cell? ⟨g,2,none⟩=some (.slice (some ⟨b,off,none⟩) l.length lc)∧P.cell? ⟨b,off+m,none⟩=some (.string T)∧P.cell? ⟨b,off+(m+1),none⟩=some (.string M)) (go_keep) ((first|(refine z3u _ rfl _ _ 65 rfl B.heap.size 97 i0 _ 2 32 underlying65 a0 I L D rfl (by decide) _ _ _ rfl FQ.o _ _ 1 _ rfl a1.o (zx5 (h:=rfl)) ?c1 ?c2 ?c3 ?_;(case c1=>(unfold maxLen;omega));(case c2=>omega);(case c3=>first|omega|(simp;omega));intro v5 w5 a p K;have F5:=hid (FB.o.grown p (fun j hj=>.inr ((HO.o.lt j hj).1)));have a3:=hid a;obtain⟨A5,c5,rfl,-⟩:=z05 a;have E:=hid (C3.o.go F5.o);clear a p K O N X;have O:=E.o.d.three.2.2;have N:=E.o.f.cell (r.o) (by simp);have X:=E.o.f.cell (z.o) (by simp))))
       have aa:=hid (show w5.ownsRow B.heap.size 97 2 (.slice A5 (k+1) c5) (k+1) (z0e (C.take (k+1))) from by rw[TK.o];exact a3.o))
    | (go_upto_region 8 with fail
       go_region_held3 (fun P=>P.cell? ⟨g,2,none⟩=some (.slice (some ⟨b,off,none⟩) l.length lc)∧P.cell? ⟨b,off+m,none⟩=some (.string T)∧P.cell? ⟨b,off+(m+1),none⟩=some (.string M)) (go_keep) ((first|(go_at_call 200;refine(IQ.o _ V.o.drew.f).mono ?_;rintro eI wI ⟨rfl,fI⟩;have FI:=hid (F.o.drew.trans fI);have al:=hid (z08 (show wr.drew.ownsRow _ _ _ _ _ _ from HO.o) fI (by simp));have CI:=hid (C3.o.go FI.o);have b9:=FI.o.size;have FQ:=hid (al.o.alloc (.cells #[.int .i64 n1,.string M] 102));have FB:=hid (FI.o.alloc (.cells #[.int .i64 n1,.string M] 102));have a1:=hid (z0l (World.ownsRow_lit (base:=wI.heap.size) (e:=102) (size:=2) wI #[.int .i64 n1,.string M] 1 (Xb _) (by decide) rfl));clear fI O N X;have O:=CI.o.d.three.2.2;have N:=CI.o.f.cell (r.o) (by simp);have X:=CI.o.f.cell (z.o) (by simp))|(refine z3u _ rfl _ _ 66 rfl B.heap.size 102 i0 _ 2 24 underlying66 a0 I L D rfl (by decide) _ _ _ rfl FQ.o _ _ 1 _ rfl a1.o (zx5 (h:=rfl)) ?c1 ?c2 ?c3 ?_;(case c1=>(unfold maxLen;omega));(case c2=>omega);(case c3=>first|omega|(simp;omega));intro v5 w5 a p K;have F5:=hid (FB.o.grown p (fun j hj=>.inr ((HO.o.lt j hj).1)));have a3:=hid a;obtain⟨A5,c5,rfl,-⟩:=z05 a;have E:=hid (C3.o.go F5.o);clear a p K O N X;have O:=E.o.d.three.2.2;have N:=E.o.f.cell (r.o) (by simp);have X:=E.o.f.cell (z.o) (by simp))))
       have aa:=hid (show w5.ownsRow B.heap.size 102 2 (.slice A5 (k+1) c5) (k+1) (z06 (C.take (k+1))) from by rw[TK.o];exact a3.o))
    clear O N X;go_wp2;go_roundg (mm - (k+1))
    case measure=>omega
    case rel=>exact⟨k+1,A5,c5,rfl,by omega,rfl,congrArg (Value.int .i64) (by have:=ap.o;omega),aa.o,F5.o⟩
   ·
    obtain rfl:k=mm:=by omega
    have jz:¬(((2 * k+1:Nat):Int) < (l.length:Int)):=by omega
    have aw:¬2 * k+1 < l.length:=by omega
    have ah:¬(2 * (k:Int)+1 < (l.length:Int)):=by omega
    have az:decide (2 * (k:Int)+1 < (l.length:Int))=false:=Xl ah
    first
    | (guard_hyp n
       have af:=hid (show Sl wr wr.heap.size 2 (.slice Q k U) k (z0e C) from by
        have:=z0l HO.o;rw[Xw (by rw[S.o];exact Xb _)] at this;exact this)
       have a7:=hid (fun W u A c (q1:z0p W W.heap.size u x) (q:Sl W W.heap.size 2 (.slice A k c) k (z0e C))=>(show Calls prog 222 #[u,.slice A k c] W (z57 nn cc y W) from by
        have h:=OP.o W u A c q1;rw[S.o] at h;exact h q)))
    | (have af:=hid (show Sl wr wr.heap.size 2 (.slice Q k U) k (z06 C) from by
        have:=z0l HO.o;rw[Xw (by rw[S.o];exact Xb _)] at this;exact this)
       have a7:=hid (fun W u A c (q1:z0p W W.heap.size u x) (q:Sl W W.heap.size 2 (.slice A k c) k (z06 C))=>(show Calls prog 225 #[u,.slice A k c] W (z57 nn cc y W) from by
        have h:=OP.o W u A c q1;rw[S.o] at h;exact h q)))
    have O:=V.o.d.three.2.2;obtain⟨d0,d1,d2,d3,d4⟩:=five V.o.b;clear ab a6;go_wp2_with fail;refine(a7.o _ _ _ _ V.o.i.item af.o).mono ?_;rintro e9 wq ⟨yv,rfl,hy,fq⟩;have CN:=hid (V.o.go fq);have ai:=hid (hy.less (show B0≤_ from V.o.d.bz));obtain⟨A1,c1,A2,c2,A3,c3,rfl⟩:=hy.form;have b2:=CN.o.f.size;have VB:=hid (Whole.new wq 68 (yIl y A1 c1 A2 c2 A3 c3));have C4:=hid (CN.o.go ((Fr.refl [] wq).alloc (.cells (yIa y A1 c1 A2 c2 A3 c3) 68)));have HY:=hid (ai.o.go ((Fr.refl [] wq).alloc (.cells (yIa y A1 c1 A2 c2 A3 c3) 68)));obtain⟨gb,a4⟩:∃gb,gb=wq.heap.size:=⟨_,rfl⟩;rw[←a4] at VB;have b8:w.heap.size < gb:=by have:=CN.o.q.lt;omega
    clear hy fq O d0 d1 d2 d3 d4;go_upto_region 10 with fail;rw[←a4];clear a4;obtain⟨m0,m1,m2,m3,m4⟩:=five VB.o;go_region_held3 (fun P=>yIc P gb y A1 c1 A2 c2 A3 c3) ((simp only[yIc];go_keep)) ((first|(go_at_call 197;refine(z1c _ _).mono ?_;rintro e5 w5 ⟨rfl,f5⟩;have E:=hid (C4.o.go (z01 f5));have a9:=hid (VB.o.f0 (z01 f5));have aj:=hid (HY.o.go (z01 f5));clear f5 m0 m1 m2 m3 m4;obtain⟨m0,m1,m2,m3,m4⟩:=five a9.o)|(go_at_call 196;refine(CH.o _ _ _ E.o.d aj.o (z1i.bare _ _ _ _ _)).mono ?_;rintro e6 w6 ⟨u,rfl,hu,f6,hd⟩;obtain⟨R,rc,rfl⟩:=hu.form;have an:=hid (a9.o.fr f6 (fun hm=>by have:=(H.o.low _ hm).2;omega));have Q6:=hid (E.o.q.fr f6 (fun hm=>by have:=(H.o.low _ hm).2;omega));have HU:=hid hu;have HD:=hid hd;have F6:=hid (E.o.f.up.trans f6);clear f6 hu hd m0 m1 m2 m3 m4;obtain⟨m0,m1,m2,m3,m4⟩:=five an.o;obtain⟨y0,y1,y2,y3⟩:=four Q6.o;obtain⟨z0,z1,z2,z3⟩:=z1p Q6.o;have ar:¬gb=w.heap.size:=(by omega);have au:¬w.heap.size=gb:=(by omega))))
    obtain⟨sp,pr⟩:=pp;go_wp2
    first
    | (guard_hyp n
       refine Xg (v:=.agg (yRa pr R rc)) (by simp[results,results157,go_sem,y0,y1,y2,y3]) rfl ?_)
    | (refine Xg (v:=.agg (yRa pr R rc)) (by simp[results,results158,go_sem,y0,y1,y2,y3]) rfl ?_)
    exact ChD.fin4 HU.o F6.o Q6.o ag HD.o
abbrev q2r:=@And.left _ _ tw2x
abbrev q30:=@And.right _ _ tw2x
structure Kw(g B0:Nat)(sv:Value)(now:Int)(lv:Value)(l:YX)(s:List Ent)(bs:List (Nat×Nat×List Value))(w wr:World):Prop where
 bl:∀p∈bs,Whole wr p.1 p.2.1 p.2.2
 lo:∀p∈bs,w.heap.size≤p.1
 d:Dr g B0 sv now lv l s wr
 f:Fr [] w wr
section
variable {g B0:Nat} {sv:Value} {now:Int} {lv:Value} {l:YX} {s:List Ent} {bs:List (Nat×Nat×List Value)} {w wr w1:World}
theorem Kw.go(h:Kw g B0 sv now lv l s bs w wr)(k:Fr [] wr w1):Kw g B0 sv now lv l s bs w w1:=⟨fun p hp=>(h.bl p hp).f0 k,h.lo,h.d.go k,h.f.trans k⟩
theorem zKW{y:Ent}{gb c1 c2 c3:Nat}{A1 A2 A3:YV}(H:Hid (Dr g B0 sv now lv l s w))(P0:Hid (Whole ((w.alloc (.cells #[.pointer (some ⟨g,0,none⟩)] 139)).alloc (.cells #[.int .i64 0,.string ⟨#[]⟩,.int .i64 0,.slice none 0 0] 27)) w.heap.size 139 [.pointer (some ⟨g,0,none⟩)]))(Q0:Hid (Whole ((w.alloc (.cells #[.pointer (some ⟨g,0,none⟩)] 139)).alloc (.cells #[.int .i64 0,.string ⟨#[]⟩,.int .i64 0,.slice none 0 0] 27)) (w.heap.size+1) 27 [.int .i64 0,.string ⟨#[]⟩,.int .i64 0,.slice none 0 0]))(F0:Hid (Fr [] w ((w.alloc (.cells #[.pointer (some ⟨g,0,none⟩)] 139)).alloc (.cells #[.int .i64 0,.string ⟨#[]⟩,.int .i64 0,.slice none 0 0] 27))))(hf:Fr [] ((w.alloc (.cells #[.pointer (some ⟨g,0,none⟩)] 139)).alloc (.cells #[.int .i64 0,.string ⟨#[]⟩,.int .i64 0,.slice none 0 0] 27)) wr)(hw:Whole wr gb 70 [.string y.key,.int .i64 y.item.kind,.string y.item.text,.slice A1 y.item.list.length c1,.slice A2 y.item.pairs.length c2,.slice A3 y.item.scores.length c3,.int .i64 y.til])(hgb2:w.heap.size+1 < gb):
  Hid (Kw g B0 sv now lv l s [(w.heap.size,139,[.pointer (some ⟨g,0,none⟩)]),(w.heap.size+1,27,[.int .i64 0,.string ⟨#[]⟩,.int .i64 0,.slice none 0 0]),(gb,70,[.string y.key,.int .i64 y.item.kind,.string y.item.text,.slice A1 y.item.list.length c1,.slice A2 y.item.pairs.length c2,.slice A3 y.item.scores.length c3,.int .i64 y.til])] w wr):=hid (by
 refine⟨fun p hp=>?_,fun p hp=>?_,H.o.go (F0.o.trans hf),F0.o.trans hf⟩
 ·simp at hp;rcases hp with rfl|rfl|rfl
  ·exact P0.o.f0 hf
  ·exact Q0.o.f0 hf
  ·exact hw
 ·simp at hp;rcases hp with rfl|rfl|rfl
  ·exact Xb _
  ·exact Uh _
  ·show w.heap.size≤gb;omega)
theorem Kw.drew(h:Kw g B0 sv now lv l s bs w wr):Kw g B0 sv now lv l s bs w wr.drew:=h.go (Fr.refl [] _).drew
theorem Kw.keep(h:Kw g B0 sv now lv l s bs w wr)(H:Dr g B0 sv now lv l s w)(k:Fr (g :: z1w sv) wr w1):∀p∈bs,Whole w1 p.1 p.2.1 p.2.2:=fun p hp=>
 (h.bl p hp).fr k (fun hm=>by have:=(H.low _ hm).2;have:=h.lo p hp;omega)
end
theorem ChD.fin4o{g B0 o:Nat}{sv:Value}{now:Int}{lv:Value}{l:YX}{s:List Ent}{r:Rep}{w w4:World}{A:YV}{k:Nat}{cs:List Value}(ho:w.heap.size≤o)(hc:z1i w4 (o+1) (.agg #[.int .i64 r.kind,.string r.text,.int .i64 r.n,.slice A r.list.length k]) r)(hf:Fr (g :: z1w sv) w w4)(hq:Whole w4 o 27 cs)(hB:B0≤w.heap.size)(hd:r.kind≠2→∃sv',Dr g B0 sv' now lv l s w4):
  ChD g B0 B0 sv now lv l (s,r) w (.returned (.agg #[.int .i64 r.kind,.string r.text,.int .i64 r.n,.slice A r.list.length k])) (set4 w4 o (.int .i64 r.kind) (.string r.text) (.int .i64 r.n) (.slice A r.list.length k)):=
 ⟨_,rfl,(hc.set4 (Je _) _ _ _ _).base (by omega),z2d hf ho _ _ _ _,fun h=>(hd h).imp fun _ k=>k.set4W hq (by omega) _ _ _ _⟩
theorem ChD.fin4b{g B0 o:Nat}{sv:Value}{now:Int}{lv:Value}{l:YX}{s:List Ent}{r:Rep}{w w4:World}{A:YV}{k:Nat}{cs:List Value}(ho:w.heap.size≤o)(hc:z1i w4 (o+1) (.agg #[.int .i64 r.kind,.string r.text,.int .i64 r.n,.slice A r.list.length k]) r)(hf:Fr (g :: z1w sv) w w4)(hq:Whole w4 o 27 cs)(hB:B0≤w.heap.size)(hd:r.kind≠2→∃sv',Dr g B0 sv' now lv l s w4):
  ChD g B0 w.heap.size sv now lv l (s,r) w (.returned (.agg #[.int .i64 r.kind,.string r.text,.int .i64 r.n,.slice A r.list.length k])) (set4 w4 o (.int .i64 r.kind) (.string r.text) (.int .i64 r.n) (.slice A r.list.length k)):=
 ⟨_,rfl,(hc.set4 (Je _) _ _ _ _).base (by omega),z2d hf ho _ _ _ _,fun h=>(hd h).imp fun _ k=>k.set4W hq (by omega) _ _ _ _⟩
theorem zb8(s)(now:Int)(k)(u:Int):zb7 s now k (z2q 0) u=z5q s k∧z2r s now k (z2q 0) u=0:=by
 unfold zb7 z2r;rw[Xf z44,Xf z44];exact⟨rfl,rfl⟩
def q50(s:List Ent)(now:Int)(y:Ent)(n:Int):List Ent×Rep:=
 if n < 1 then (z5q s y.key,z0s 1) else if 1000000 < now+n then (s,z8t 3) else (if z2r s now y.key y.item (now+n)=0 then zb7 s now y.key y.item (now+n) else s,orR (z0s 1) (z2r s now y.key y.item (now+n)) false)
theorem zm9(g B0:Nat)(sv)(now:Int)(lv0)(l)(s)(y:Ent)(A1)(c1:Nat)(A2)(c2:Nat)(A3)(c3:Nat)(n:Int)(w)(hr:rises (ltK Ent.key) s=true)(hl:s.length≤1000)(hsy:y.item.Small)(h0:0≤now∧now≤1000000)(hn:-999999999≤n∧n≤999999999)(h:Dr g B0 sv now lv0 l s w)(hc:z38 w B0 (z9p y A1 c1 A2 c2 A3 c3) y):
  Calls prog 208 #[.pointer (some ⟨g,0,none⟩),.agg #[.string y.key,.int .i64 y.item.kind,.string y.item.text,.slice A1 y.item.list.length c1,.slice A2 y.item.pairs.length c2,.slice A3 y.item.scores.length c3,.int .i64 y.til],.int .i64 n] w (ChD g B0 w.heap.size sv now lv0 l (q50 s now y n) w):=by
 obtain⟨a,z⟩:∃c:Int,c=0:=⟨_,rfl⟩
 have a2:=hid (fun W (hd:Dr g B0 sv now lv0 l s W)=>(show Calls prog 193 #[.pointer (some ⟨g,0,none⟩),.string y.key,.agg yIza,.int .i64 0] W (PutD g B0 sv now lv0 l (z5q s y.key) a W) from by
  have:=zan g B0 sv now lv0 l s y.key (z2q 0) (.agg yIza) 0 W hr hl za5 hd (z0k.nothing _ _);rw[(zb8 s now y.key 0).1,(zb8 s now y.key 0).2] at this;rw[z];exact this))
 have a0:=hid z;clear z;have PT:=hid (fun W (hd:Dr g B0 sv now lv0 l s W) (hy:z38 W B0 (z9p y A1 c1 A2 c2 A3 c3) y)=>zan g B0 sv now lv0 l s y.key y.item _ (now+n) W hr hl hsy hd hy.item)
 have b:=hid (show Kw g B0 sv now lv0 l s [(w.heap.size,70,(yEl y A1 c1 A2 c2 A3 c3)),(w.heap.size+1,27,yRzl)] w ((w.alloc (.cells (yEa y A1 c1 A2 c2 A3 c3) 70)).alloc (.cells yRza 27)) from by
  refine⟨fun p j=>?_,fun p j=>?_,(h.go ((Fr.refl [] w).alloc _)).go ((Fr.refl [] _).alloc _),((Fr.refl [] w).alloc _).alloc _⟩
  ·simp at j;rcases j with rfl|rfl
   ·exact Whole.alloc (Whole.new w _ _) _
   ·exact z8e w _ _ _
  ·simp at j;rcases j with rfl|rfl
   ·exact Xb _
   ·exact Uh _)
 have u:=hid (hc.fr (((Fr.refl [] w).alloc (.cells (yEa y A1 c1 A2 c2 A3 c3) 70)).alloc (.cells yRza 27)));have H:=hid h;have a4:=h.lt;have P:=h.bz;have ED:=hid (show q50 s now y n=if n < 1 then (z5q s y.key,z0s 1) else if 1000000 < now+n then (s,z8t 3) else (if z2r s now y.key y.item (now+n)=0 then zb7 s now y.key y.item (now+n) else s,orR (z0s 1) (z2r s now y.key y.item (now+n)) false) from rfl);have a5:=h.three.2.1;clear h hc hr;obtain⟨pp,Q⟩:∃pp,pp=q50 s now y n:=⟨_,rfl⟩;rw[←Q];have m:=hid (Q.trans ED.o);clear Q ED;have G1:=hid ((b.o.d).three.2.1);have g1:=G1.o;obtain⟨t,L,J,M,N,F,G⟩:=seven (b.o.bl _ (.head _));by_cases hn1:n < 1
 ·rw[Xf hn1] at m;have q1:decide (n < 1)=true:=Xi hn1;go_enter func208,ntmps208;go_upto_region 3 with fail;have KD:=hid b.o.drew;have HD:=hid (u.o.fr (Fr.refl [] _).drew);clear b u L J M N F G;have b:=KD;have u:=HD;clear KD HD;go_region_held3 (fun I=>I.cell? ⟨w.heap.size,0,none⟩=some (.string y.key)) (go_keep) ((first|(go_at_call 197;refine(z1c _ _).mono ?_;rintro F w5 ⟨rfl,T⟩;have X:=hid (b.o.go T);have A:=hid (u.o.fr T);clear b u t;have b:=X;have u:=A;clear X A T;have t:=(b.o.bl _ (.head _)).cell 0)|(go_at_call 193;refine(a2.o _ b.o.d).mono ?_;rintro G w6 ⟨rfl,U,a1,D,C⟩;have Y:=hid (b.o.keep H.o U);have F6:=hid (b.o.f.up.trans U);have D6:=hid C;have G6:=hid D;clear U D C t;have t:=(Y.o _ (.head _)).cell 0)|(go_at_call 191;refine(z6l (z0s 1) _ a false (w.heap.size+1+1) _ (z1i.bare _ _ _ _ _)).mono ?_;rintro e8 K ⟨rfl,x⟩;have F8:=hid (F6.o.trans x.up);have V:=hid x;have e:=hid (fun p j=>(Y.o p j).f0 x);clear x t;have t:=(e.o _ (.head _)).cell 0;obtain⟨y0,Z,y2,y3⟩:=four (e.o _ (.tail _ (.head _)));obtain⟨z0,z1,z2,z3⟩:=z1p (e.o _ (.tail _ (.head _)));have HV:=hid (show z1i K (w.heap.size+1+1) (orV (.agg #[.int .i64 3,.string ⟨#[]⟩,.int .i64 1,.slice none 0 0]) a false) (orR (z0s 1) a false) from zc2 (z1i.bare _ _ _ _ _) a false);obtain⟨S,B,hS⟩:=HV.o.form;have E:=hid hS;clear hS;rw[E.o])))
  have E9:=hid (show pp=(if a=0 then z5q s y.key else s,orR (z0s 1) a false) from by rw[m.o,Xf a0.o,a0.o];rfl);have O:=hid (show z1i K (w.heap.size+1+1) (.agg #[.int .i64 (orR (z0s 1) a false).kind,.string (orR (z0s 1) a false).text,.int .i64 (orR (z0s 1) a false).n,.slice S (orR (z0s 1) a false).list.length B]) (orR (z0s 1) a false) from by have:=HV.o;rw[E.o] at this;exact this)
  have R:=hid (show(orR (z0s 1) a false).kind≠2→∃sv',Dr g B0 sv' now lv0 l (if a=0 then (z5q s y.key) else s) K from fun hk=>by
   by_cases j:a=0
   ·rw[Xf j];exact⟨_,(D6.o j).go V.o⟩
   ·exact absurd (show(orR (z0s 1) a false).kind=2 from by unfold orR;rw[Xc j,Xc (fun h=>by cases h.2)];rfl) hk)
  generalize (if a=0 then (z5q s y.key) else s)=sf at *;generalize orR (z0s 1) a false=q9 at *;go_wp2;refine Xg (v:=.agg (yRa q9 S B)) (by simp[results,results208,go_sem,y0,Z,y2,y3]) rfl ?_;rw[E9.o];exact ChD.fin4b (Uh _) O.o F8.o (e.o _ (.tail _ (.head _))) P R.o
 ·rw[Xc hn1] at m;have q1:decide (n < 1)=false:=Xl hn1;have a3:¬n < 1:=hn1;by_cases hm:1000000 < now+n
  ·rw[Xf hm] at m;have q2:decide (now+n > 1000000)=true:=Xi hm;have q3:now+n > 1000000:=hm;go_enter func208,ntmps208;go_wp2_with fail;refine(zbv 3 _).mono ?_;rintro e8 K ⟨rfl,x⟩;have K8:=hid (b.o.go x);clear x t L J M N F G;obtain⟨y0,Z,y2,y3⟩:=four (K8.o.bl _ (.tail _ (.head _)));obtain⟨z0,z1,z2,z3⟩:=z1p (K8.o.bl _ (.tail _ (.head _)));go_wp2;refine Xg (v:=.agg #[.int .i64 2,.string ⟨#[]⟩,.int .i64 3,.slice none 0 0]) (by simp[results,results208,go_sem,y0,Z,y2,y3]) rfl ?_;rw[m.o];exact ChD.fin4b (r:=z8t 3) (Uh _) (z1i.bare _ _ _ _ _) K8.o.f.up (K8.o.bl _ (.tail _ (.head _))) P (fun _=>⟨_,K8.o.d⟩)
  ·rw[Xc hm] at m;have q2:¬now+n > 1000000:=hm;generalize zb7 s now y.key y.item (now+n)=s2 at *;generalize hpc9:z2r s now y.key y.item (now+n)=k at *;clear hpc9;go_enter func208,ntmps208;go_upto_region 6 with fail;have KD:=hid b.o.drew;have HD:=hid (u.o.fr (Fr.refl [] _).drew);clear b u;have b:=KD;have u:=HD;clear KD HD;go_region_held3 (fun I=>I.cell? ⟨w.heap.size,0,none⟩=some (.string y.key)∧I.cell? ⟨w.heap.size,1,none⟩=some (.int .i64 y.item.kind)∧I.cell? ⟨w.heap.size,2,none⟩=some (.string y.item.text)∧I.cell? ⟨w.heap.size,3,none⟩=some (.slice A1 y.item.list.length c1)∧I.cell? ⟨w.heap.size,4,none⟩=some (.slice A2 y.item.pairs.length c2)∧I.cell? ⟨w.heap.size,5,none⟩=some (.slice A3 y.item.scores.length c3)) (go_keep) ((first|(go_at_call 197;refine(z1c _ _).mono ?_;rintro F w5 ⟨rfl,T⟩;have X:=hid (b.o.go T);have A:=hid (u.o.fr T);clear b u t L J M N F G;have b:=X;have u:=A;clear X A T;obtain⟨t,L,J,M,N,F,G⟩:=seven (b.o.bl _ (.head _)))|(go_at_call 193;refine(PT.o _ b.o.d u.o).mono ?_;rintro G w6 ⟨rfl,U,a1,D,C⟩;have Y:=hid (b.o.keep H.o U);have F6:=hid (b.o.f.up.trans U);have D6:=hid C;have G6:=hid D;clear U D C t L J M N F G;obtain⟨t,L,J,M,N,F,G⟩:=seven (Y.o _ (.head _)))|(go_at_call 191;refine(z6l (z0s 1) _ k false (w.heap.size+1+1) _ (z1i.bare _ _ _ _ _)).mono ?_;rintro e8 K ⟨rfl,x⟩;have F8:=hid (F6.o.trans x.up);have V:=hid x;have e:=hid (fun p j=>(Y.o p j).f0 x);clear x t L J M N F G;obtain⟨t,L,J,M,N,F,G⟩:=seven (e.o _ (.head _));obtain⟨y0,Z,y2,y3⟩:=four (e.o _ (.tail _ (.head _)));obtain⟨z0,z1,z2,z3⟩:=z1p (e.o _ (.tail _ (.head _)));have HV:=hid (show z1i K (w.heap.size+1+1) (orV (.agg #[.int .i64 3,.string ⟨#[]⟩,.int .i64 1,.slice none 0 0]) k false) (orR (z0s 1) k false) from zc2 (z1i.bare _ _ _ _ _) k false);obtain⟨S,B,hS⟩:=HV.o.form;have E:=hid hS;clear hS;rw[E.o])))
   have O:=hid (show z1i K (w.heap.size+1+1) (.agg #[.int .i64 (orR (z0s 1) k false).kind,.string (orR (z0s 1) k false).text,.int .i64 (orR (z0s 1) k false).n,.slice S (orR (z0s 1) k false).list.length B]) (orR (z0s 1) k false) from by have:=HV.o;rw[E.o] at this;exact this)
   have R:=hid (show(orR (z0s 1) k false).kind≠2→∃sv',Dr g B0 sv' now lv0 l (if k=0 then s2 else s) K from fun hk=>by
    by_cases j:k=0
    ·rw[Xf j];exact⟨_,(D6.o j).go V.o⟩
    ·exact absurd (show(orR (z0s 1) k false).kind=2 from by unfold orR;rw[Xc j,Xc (fun h=>by cases h.2)];rfl) hk)
   generalize (if k=0 then s2 else s)=sf at *;generalize orR (z0s 1) k false=q9 at *;go_wp2;refine Xg (v:=.agg (yRa q9 S B)) (by simp[results,results208,go_sem,y0,Z,y2,y3]) rfl ?_;rw[m.o];exact ChD.fin4b (Uh _) O.o F8.o (e.o _ (.tail _ (.head _))) P R.o
end
end Go.Proofs.YtnmoajaelmimnaaGreatDoor
