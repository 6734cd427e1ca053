/- Contracts; no condition but each theorem's own. -/
import Derived.Test.YtnmoajaelmimnaaGreatDoorSlY29
set_option linter.unusedVariables false
set_option linter.unusedSimpArgs false
set_option maxHeartbeats 8000000
set_option maxRecDepth 100000
namespace Go.Proofs.YtnmoajaelmimnaaGreatDoor
open Go.Proofs.Tryz
section
open Go.RowKit
theorem zvm{S:List Nat}{a b:World}{n:Nat}(h:Fr S a b)(hn:n < a.heap.size):¬n=b.heap.size∧¬b.heap.size=n:=by
 have:=h.size;constructor <;> omega
theorem q4t:(∀(g B0:Nat) (sv) (now:Int) (lv) (l:YX) (s) (c0) (w) (ok:z22 s) (hn:2≤l.length) (h12:l.length≤11) (hz:∀t∈l,t.size≤60) (h:Dr g B0 sv now lv l s w),Calls prog 156 #[.pointer (some ⟨g,0,none⟩),.string ⟨#[115,97,100,100]⟩] w (ChD g B0 B0 sv now lv l (doC .sadd s now (c0 :: l)) w))∧(∀(g B0:Nat) (sv) (now:Int) (lv) (l:YX) (s) (c0) (w) (ok:z22 s) (hn:2≤l.length) (h12:l.length≤11) (hz:∀t∈l,t.size≤60) (h:Dr g B0 sv now lv l s w),Calls prog 156 #[.pointer (some ⟨g,0,none⟩),.string ⟨#[115,114,101,109]⟩] w (ChD g B0 B0 sv now lv l (doC .srem s now (c0 :: l)) w))∧(∀(g B0:Nat) (sv) (now:Int) (lv) (l:YX) (s) (c0) (w) (ok:z22 s) (hn:2≤l.length) (h12:l.length≤11) (hz:∀t∈l,t.size≤60) (h:Dr g B0 sv now lv l s w),Calls prog 157 #[.pointer (some ⟨g,0,none⟩),.string ⟨#[104,100,101,108]⟩] w (ChD g B0 B0 sv now lv l (doC .hdel s now (c0 :: l)) w))∧(∀(g B0:Nat) (sv) (now:Int) (lv) (l:YX) (s) (c0) (w) (ok:z22 s) (hn:2≤l.length) (h12:l.length≤11) (hz:∀t∈l,t.size≤60) (h:Dr g B0 sv now lv l s w),Calls prog 158 #[.pointer (some ⟨g,0,none⟩),.string ⟨#[122,114,101,109]⟩] w (ChD g B0 B0 sv now lv l (doC .zrem s now (c0 :: l)) w))∧(∀(g B0:Nat) (sv) (now:Int) (lv) (l:YX) (s) (c0) (w) (ok:z22 s) (hn:2≤l.length) (h12:l.length≤11) (hz:∀t∈l,t.size≤60) (h:Dr g B0 sv now lv l s w),Calls prog 155 #[.pointer (some ⟨g,0,none⟩),.string ⟨#[108,114,101,109]⟩] w (ChD g B0 B0 sv now lv l (doC .lrem s now (c0 :: l)) w))∧(∀(g B0:Nat) (sv) (now:Int) (lv) (l:YX) (s) (c0) (w) (ok:z22 s) (hn:2≤l.length) (h12:l.length≤11) (hz:∀t∈l,t.size≤60) (h:Dr g B0 sv now lv l s w),Calls prog 153 #[.pointer (some ⟨g,0,none⟩),.string ⟨#[97,112,112,101,110,100]⟩] w (ChD g B0 B0 sv now lv l (doC .append_ s now (c0 :: l)) w))∧(∀(g B0:Nat) (sv) (now:Int) (lv) (l:YX) (s) (c0) (w) (ok:z22 s) (hn:2≤l.length) (h12:l.length≤11) (hz:∀t∈l,t.size≤60) (n1:Int) (h1:z5l (wd l 1).data.toList=some n1) (hv:Vars w) (h:Dr g B0 sv now lv l s w),Calls prog 153 #[.pointer (some ⟨g,0,none⟩),.string ⟨#[105,110,99,114,98,121]⟩] w (ChD g B0 B0 sv now lv l (doC .incrby s now (c0 :: l)) w)):=by
 refine⟨?_,?_,?_,?_,?_,?_,?_⟩;have a4:=hid trivial
 rotate_left
 have a1:=hid trivial
 rotate_left
 have a3:=hid trivial
 rotate_left
 have a2:=hid trivial
 rotate_left
 have K:=hid trivial
 rotate_left
 have O:=hid trivial
 rotate_left
 have V:=hid trivial
 all_goals
  first
  | (guard_hyp V
     intro g B0 sv now lv l s c0 w ok hn h12 hz n1 h1 hv h)
  | (intro g B0 sv now lv l s c0 w ok hn h12 hz h)
  have hr:=ok.rise;have aa:=ok.le;have DI:=zDI hr aa h;have LS:=hid (z2n (z17 ok) now (wd l 0)).item
  first
  | (guard_hyp a4
     have EP:doC .sadd s now (c0 :: l)=fin s now (wd l 0) (zcx (z00 s now (wd l 0)).item (l.drop 1)) (z00 s now (wd l 0)).til true false (zgb (z00 s now (wd l 0)).item (l.drop 1)) (z0s (ziy (z00 s now (wd l 0)).item (l.drop 1))):=rfl;have SY:=hid (show(zcx (z00 s now (wd l 0)).item (l.drop 1)).Small from zm1 _ _);have D:(l.drop 1).length=l.length - 1:=by rw[Xr]
     have E:=hid (fun W u A c (k:z0p W W.heap.size u (z00 s now (wd l 0)).item) (q:Sl W W.heap.size 1 (.slice A (l.length - 1) c) (l.length - 1) (z03 (l.drop 1)))=>(show Calls prog 215 #[u,.slice A (l.length - 1) c] W (z57 (ziy (z00 s now (wd l 0)).item (l.drop 1)) (zgb (z00 s now (wd l 0)).item (l.drop 1)) (zcx (z00 s now (wd l 0)).item (l.drop 1)) W) from by
      rw[←D] at q ⊢;exact zs1 (z00 s now (wd l 0)).item u (l.drop 1) A c W W.heap.size LS.o (Xb _) k (by omega) q))
     clear D;generalize zcx (z00 s now (wd l 0)).item (l.drop 1)=y at *;generalize ziy (z00 s now (wd l 0)).item (l.drop 1)=nn at *;generalize zgb (z00 s now (wd l 0)).item (l.drop 1)=Z at *)
  | (guard_hyp a1
     have EP:doC .srem s now (c0 :: l)=fin s now (wd l 0) (z8y 3 (z00 s now (wd l 0)).item (l.drop 1)) (z00 s now (wd l 0)).til true false (z02 3 (z00 s now (wd l 0)).item) (z0s (zf7 3 (z00 s now (wd l 0)).item (l.drop 1))):=rfl;have SY:=hid (show(z8y 3 (z00 s now (wd l 0)).item (l.drop 1)).Small from zl4 _ _);have D:(l.drop 1).length=l.length - 1:=by rw[Xr]
     have E:=hid (fun W u A c (k:z0p W W.heap.size u (z00 s now (wd l 0)).item) (q:Sl W W.heap.size 1 (.slice A (l.length - 1) c) (l.length - 1) (z03 (l.drop 1)))=>(show Calls prog 216 #[u,.slice A (l.length - 1) c] W (z57 (zf7 3 (z00 s now (wd l 0)).item (l.drop 1)) (z02 3 (z00 s now (wd l 0)).item) (z8y 3 (z00 s now (wd l 0)).item (l.drop 1)) W) from by
      rw[←D] at q ⊢;exact zii (z00 s now (wd l 0)).item u (l.drop 1) A c W W.heap.size LS.o (Xb _) k (by omega) q))
     clear D;generalize z8y 3 (z00 s now (wd l 0)).item (l.drop 1)=y at *;generalize zf7 3 (z00 s now (wd l 0)).item (l.drop 1)=nn at *;generalize z02 3 (z00 s now (wd l 0)).item=Z at *)
  | (guard_hyp a3
     have EP:doC .hdel s now (c0 :: l)=fin s now (wd l 0) (zd0 (z00 s now (wd l 0)).item (l.drop 1)) (z00 s now (wd l 0)).til true false (z02 4 (z00 s now (wd l 0)).item) (z0s (zjk (z00 s now (wd l 0)).item (l.drop 1))):=rfl;have SY:=hid (show(zd0 (z00 s now (wd l 0)).item (l.drop 1)).Small from zmg _ _);have D:(l.drop 1).length=l.length - 1:=by rw[Xr]
     have E:=hid (fun W u A c (k:z0p W W.heap.size u (z00 s now (wd l 0)).item) (q:Sl W W.heap.size 1 (.slice A (l.length - 1) c) (l.length - 1) (z03 (l.drop 1)))=>(show Calls prog 224 #[u,.slice A (l.length - 1) c] W (z57 (zjk (z00 s now (wd l 0)).item (l.drop 1)) (z02 4 (z00 s now (wd l 0)).item) (zd0 (z00 s now (wd l 0)).item (l.drop 1)) W) from by
      rw[←D] at q ⊢;exact zcl (z00 s now (wd l 0)).item u (l.drop 1) A c W W.heap.size LS.o (Xb _) k (by omega) q))
     clear D;generalize zd0 (z00 s now (wd l 0)).item (l.drop 1)=y at *;generalize zjk (z00 s now (wd l 0)).item (l.drop 1)=nn at *;generalize z02 4 (z00 s now (wd l 0)).item=Z at *)
  | (guard_hyp a2
     have EP:doC .zrem s now (c0 :: l)=fin s now (wd l 0) (z8s (z00 s now (wd l 0)).item (l.drop 1)) (z00 s now (wd l 0)).til true false (z02 5 (z00 s now (wd l 0)).item) (z0s (zdx (z00 s now (wd l 0)).item (l.drop 1))):=rfl;have SY:=hid (show(z8s (z00 s now (wd l 0)).item (l.drop 1)).Small from zjj _ _);have D:(l.drop 1).length=l.length - 1:=by rw[Xr]
     have E:=hid (fun W u A c (k:z0p W W.heap.size u (z00 s now (wd l 0)).item) (q:Sl W W.heap.size 1 (.slice A (l.length - 1) c) (l.length - 1) (z03 (l.drop 1)))=>(show Calls prog 226 #[u,.slice A (l.length - 1) c] W (z57 (zdx (z00 s now (wd l 0)).item (l.drop 1)) (z02 5 (z00 s now (wd l 0)).item) (z8s (z00 s now (wd l 0)).item (l.drop 1)) W) from by
      rw[←D] at q ⊢;exact zid (z00 s now (wd l 0)).item u (l.drop 1) A c W W.heap.size LS.o (Xb _) k (by omega) q))
     clear D;generalize z8s (z00 s now (wd l 0)).item (l.drop 1)=y at *;generalize zdx (z00 s now (wd l 0)).item (l.drop 1)=nn at *;generalize z02 5 (z00 s now (wd l 0)).item=Z at *)
  | (guard_hyp K
     have EP:doC .lrem s now (c0 :: l)=fin s now (wd l 0) (zxj (z00 s now (wd l 0)).item (wd l 1)) (z00 s now (wd l 0)).til true false (z02 2 (z00 s now (wd l 0)).item) (z0s (q51 (z00 s now (wd l 0)).item (wd l 1))):=rfl;have SY:=hid (show(zxj (z00 s now (wd l 0)).item (wd l 1)).Small from zrz _ _);have E:=hid (fun W u (k:z0p W W.heap.size u (z00 s now (wd l 0)).item)=>zfx (z00 s now (wd l 0)).item u (wd l 1) W W.heap.size LS.o (Xb _) k);generalize zxj (z00 s now (wd l 0)).item (wd l 1)=y at *;generalize q51 (z00 s now (wd l 0)).item (wd l 1)=nn at *;generalize z02 2 (z00 s now (wd l 0)).item=Z at *)
  | (guard_hyp O
     have ab:∀i,(wd l i).size≤60:=zfl hz;have EP:doC .append_ s now (c0 :: l)=fin s now (wd l 0) (apY (z00 s now (wd l 0)).item (wd l 1)) (z00 s now (wd l 0)).til true false (z4d (z00 s now (wd l 0)).item (wd l 1)) (z0s (apN (z00 s now (wd l 0)).item (wd l 1))):=rfl;have SY:=hid (show(apY (z00 s now (wd l 0)).item (wd l 1)).Small from zsv);have E:=hid (fun W u (k:z0p W W.heap.size u (z00 s now (wd l 0)).item)=>znw (z00 s now (wd l 0)).item u (wd l 1) W W.heap.size LS.o (Xb _) k (by have:=ab 1;omega));generalize apY (z00 s now (wd l 0)).item (wd l 1)=y at *;generalize apN (z00 s now (wd l 0)).item (wd l 1)=nn at *;generalize z4d (z00 s now (wd l 0)).item (wd l 1)=Z at *)
  | (have ae:wn (c0 :: l) 2=n1:=by show(z5l (wd l 1).data.toList).getD 0=n1;rw[h1];rfl
     have am:=zgj h1;have I1:=zI1 (by omega) hz h1 hv h;have ag:=hid hv;clear h1 hv
     have EP:doC .incrby s now (c0 :: l)=fin s now (wd l 0) (adY (z00 s now (wd l 0)).item n1) (z00 s now (wd l 0)).til true false (z4p (z00 s now (wd l 0)).item n1) (z0s (adN (z00 s now (wd l 0)).item n1)):=by
      show fin s now (wd l 0) (adY (z00 s now (wd l 0)).item (wn (c0 :: l) 2)) (z00 s now (wd l 0)).til true false (z4p (z00 s now (wd l 0)).item (wn (c0 :: l) 2)) (z0s (adN (z00 s now (wd l 0)).item (wn (c0 :: l) 2)))=_;rw[ae]
     have SY:=hid (show(adY (z00 s now (wd l 0)).item n1).Small from zsr);have E:=hid (fun W u (hW:Fr [] w W) (k:z0p W W.heap.size u (z00 s now (wd l 0)).item)=>q0y (z00 s now (wd l 0)).item u n1 W W.heap.size LS.o (Xb _) k am (ag.o.fr hW));generalize adY (z00 s now (wd l 0)).item n1=y at *;generalize z4p (z00 s now (wd l 0)).item n1=Z at *;generalize adN (z00 s now (wd l 0)).item n1=nn at *)
  have CH:=zCH g B0 sv now lv l s w y (z0s nn) Z ok (by omega) SY;rw[EP]
  first
  | (guard_hyp V
     clear EP SY ae)
  | (clear EP SY)
  have H:=hid h;have ar:=h.lt;have af:=h.bz;obtain⟨SA,sc,rfl⟩:=h.sform;obtain⟨LA,lc,rfl⟩:=h.lform;obtain⟨b,off,rfl,hb,hc,hm,a9⟩:=h.word (by omega);have a0:=hid a9;have DG:=hid (fun W (hW:Fr [] w W)=>(h.go hW).three);unfold maxLen at hm
  first
  | (guard_hyp O
     clear h hr a9 ab ok)
  | (clear h hr a9 ok)
  generalize fin s now (wd l 0) y (z00 s now (wd l 0)).til true false Z (z0s nn)=pp at *;generalize (z00 s now (wd l 0)).item=x at *
  first
  | (guard_hyp V
     skip)
  | (skip
     (first|guard_hyp K|guard_hyp O)
     have au:(1:Int) < (l.length:Int):=by omega)
  | (have ap:(1:Int)≤(l.length:Int):=by omega
     have aq:(l.length:Int)≤(lc:Int):=by omega
     have ai:¬lc=1:=by omega
     have av:(1:Int)≤(lc:Int):=by omega
     have X:=hid (fun W (hW:Fr [] w W)=>zin ((H.o.go hW).l.more (H.o.go hW).bz) (by omega) ai))
  have F0:=zF w;have Q0:=zQ w;obtain⟨T,U,S⟩:=DG.o _ F0.o;have dw:=F0.o.cell (a0.o 0 (by omega)) (by simp);rw[Ye] at dw
  first
  | (guard_hyp a3
     go_enter func157,ntmps157)
  | (guard_hyp a2
     go_enter func158,ntmps158)
  | (guard_hyp K
     go_enter func155,ntmps155)
  | (skip
     (first|guard_hyp a4|guard_hyp a1)
     go_enter func156,ntmps156)
  | (go_enter func153,ntmps153)
  go_wp2_with fail;refine(DI.o _ F0.o).mono ?_;rintro e1 m ⟨xv,rfl,hi,f1⟩;have F1:=hid (F0.o.trans f1);have Q1:=hid (Q0.o.f0 f1);have HI:=hid hi;obtain⟨G,M,I,F,N,J,rfl⟩:=hi.form;have hz1:=f1.size;simp at hz1;clear f1 hi T U S dw;have e:=zC1 Q1 HI H F1
  first
  | (guard_hyp V
     skip)
  | (have z:=zC2 e)
  obtain⟨T,U,S,Y,d4⟩:=five e.o.b
  first
  | (guard_hyp V
     have z:=zC2 e)
  | (skip
     (first|guard_hyp K|guard_hyp O)
     have d5:=(e.o.d).three.2.2;have d6:=e.o.f.cell (a0.o 1 (by omega)) (by simp))
  | (have d5:=(e.o.d).three.2.2)
  obtain⟨h0,h1,h2,h3,h4⟩:=five z.o.b
  first
  | (guard_hyp V
     skip)
  | (skip
     (first|guard_hyp K|guard_hyp O)
     have h5:=(z.o.d).three.2.2;have h6:=z.o.f.cell (a0.o 1 (by omega)) (by simp))
  | (have h5:=(z.o.d).three.2.2)
  have V2:=zV2 m (.cells (yIa x G M I F N J) 68)
  first
  | (guard_hyp a4
     have a8:¬g=m.heap.size+1:=by have:=e.o.d.lt;simp at this;omega
     have a5:¬m.heap.size+1=g:=by have:=e.o.d.lt;simp at this;omega
     have a6:¬b=m.heap.size+1:=by omega
     have a7:¬m.heap.size+1=b:=by omega
     go_upto_region 4 with fail;go_cut [6,7,8] (fun pb pn pe r=>pn=.int .i64 nn∧pe=.int .i64 Z∧zfo B0 y (m.alloc (.cells (yIa x G M I F N J) 68)) pb r))
  | (guard_hyp a1
     have a8:¬g=m.heap.size+1:=by have:=e.o.d.lt;simp at this;omega
     have a5:¬m.heap.size+1=g:=by have:=e.o.d.lt;simp at this;omega
     have a6:¬b=m.heap.size+1:=by omega
     have a7:¬m.heap.size+1=b:=by omega
     go_upto_region 7 with fail;go_cut [9,10,11] (fun pb pn pe r=>pn=.int .i64 nn∧pe=.int .i64 Z∧zfo B0 y (m.alloc (.cells (yIa x G M I F N J) 68)) pb r))
  | (guard_hyp a3
     have a8:¬g=m.heap.size+1:=by have:=e.o.d.lt;simp at this;omega
     have a5:¬m.heap.size+1=g:=by have:=e.o.d.lt;simp at this;omega
     have a6:¬b=m.heap.size+1:=by omega
     have a7:¬m.heap.size+1=b:=by omega
     go_upto_region 15 with fail;go_cut [13,14,15] (fun pb pn pe r=>pn=.int .i64 nn∧pe=.int .i64 Z∧zfo B0 y (m.alloc (.cells (yIa x G M I F N J) 68)) pb r))
  | (guard_hyp a2
     have a8:¬g=m.heap.size+1:=by have:=e.o.d.lt;simp at this;omega
     have a5:¬m.heap.size+1=g:=by have:=e.o.d.lt;simp at this;omega
     have a6:¬b=m.heap.size+1:=by omega
     have a7:¬m.heap.size+1=b:=by omega
     go_upto_region 12 with fail;go_cut [11,12,13] (fun pb pn pe r=>pn=.int .i64 nn∧pe=.int .i64 Z∧zfo B0 y (m.alloc (.cells (yIa x G M I F N J) 68)) pb r))
  | (guard_hyp K
     have a8:¬g=m.heap.size+1:=by have:=e.o.d.lt;simp at this;omega
     have a5:¬m.heap.size+1=g:=by have:=e.o.d.lt;simp at this;omega
     have a6:¬b=m.heap.size+1:=by omega
     have a7:¬m.heap.size+1=b:=by omega
     go_upto_region 18 with fail;go_cut [14,15,16] (fun pb pn pe r=>pn=.int .i64 nn∧pe=.int .i64 Z∧zfo B0 y (m.alloc (.cells (yIa x G M I F N J) 68)) pb r))
  | (guard_hyp O
     have a8:¬g=m.heap.size+1:=by have:=e.o.d.lt;simp at this;omega
     have a5:¬m.heap.size+1=g:=by have:=e.o.d.lt;simp at this;omega
     have a6:¬b=m.heap.size+1:=by omega
     have a7:¬m.heap.size+1=b:=by omega
     go_upto_region 11 with fail;go_cut [8,9,10] (fun pb pn pe r=>pn=.int .i64 nn∧pe=.int .i64 Z∧zfo B0 y (m.alloc (.cells (yIa x G M I F N J) 68)) pb r))
  | (go_upto_region 17 with fail
     go_cut [13,14,15] (fun pb pn pe r=>pn=.int .i64 nn∧pe=.int .i64 Z∧zfo B0 y (m.alloc (.cells (yIa x G M I F N J) 68)) pb r))
  case first=>
   first
   | (guard_hyp a4
      go_region_held3 (fun r=>yIc r m.heap.size x G M I F N J∧r.cell? ⟨g,2,none⟩=some (.slice (some ⟨b,off,none⟩) l.length lc)) ((simp only[yIc];go_keep)) ((first|fail|(go_at_call 215;first|(refine(E.o _ _ _ _ e.o.drew.i.item (X.o _ e.o.drew.f)).mono ?_;rintro e3 w3 ⟨yv,rfl,a,j⟩;obtain⟨A1,c1,A2,c2,A3,c3,rfl⟩:=a.form;have p:=hid (e.o.go (z01 j));have F3:=hid (z01 j);have L:=hid (a.less (show B0≤_ from e.o.d.bz));obtain⟨k0,k1,k2,k3,k4⟩:=five p.o.b;have k5:=(p.o.d).three.2.2;clear j a T U S Y d4 d5 h0 h1 h2 h3 h4 h5)|(refine(E.o _ _ _ _ z.o.drew.i.item (X.o _ z.o.drew.f)).mono ?_;rintro e3 w3 ⟨yv,rfl,a,j⟩;obtain⟨A1,c1,A2,c2,A3,c3,rfl⟩:=a.form;have p:=hid (z.o.go (z01 j));have F3:=hid (z3v (z01 j));have Q:=hid (V2.o.f0 (z01 j));have y7:=five Q.o;have z7:=z11 Q.o;have L:=hid (a.less (show B0≤_ from z.o.d.bz));obtain⟨k0,k1,k2,k3,k4⟩:=five p.o.b;have k5:=(p.o.d).three.2.2;clear j a T U S Y d4 d5 h0 h1 h2 h3 h4 h5)))))
   | (guard_hyp a1
      go_region_held3 (fun r=>yIc r m.heap.size x G M I F N J∧r.cell? ⟨g,2,none⟩=some (.slice (some ⟨b,off,none⟩) l.length lc)) ((simp only[yIc];go_keep)) ((first|fail|(go_at_call 216;first|(refine(E.o _ _ _ _ e.o.drew.i.item (X.o _ e.o.drew.f)).mono ?_;rintro e3 w3 ⟨yv,rfl,a,j⟩;obtain⟨A1,c1,A2,c2,A3,c3,rfl⟩:=a.form;have p:=hid (e.o.go (z01 j));have F3:=hid (z01 j);have L:=hid (a.less (show B0≤_ from e.o.d.bz));obtain⟨k0,k1,k2,k3,k4⟩:=five p.o.b;have k5:=(p.o.d).three.2.2;clear j a T U S Y d4 d5 h0 h1 h2 h3 h4 h5)|(refine(E.o _ _ _ _ z.o.drew.i.item (X.o _ z.o.drew.f)).mono ?_;rintro e3 w3 ⟨yv,rfl,a,j⟩;obtain⟨A1,c1,A2,c2,A3,c3,rfl⟩:=a.form;have p:=hid (z.o.go (z01 j));have F3:=hid (z3v (z01 j));have Q:=hid (V2.o.f0 (z01 j));have y7:=five Q.o;have z7:=z11 Q.o;have L:=hid (a.less (show B0≤_ from z.o.d.bz));obtain⟨k0,k1,k2,k3,k4⟩:=five p.o.b;have k5:=(p.o.d).three.2.2;clear j a T U S Y d4 d5 h0 h1 h2 h3 h4 h5)))))
   | (guard_hyp a3
      go_region_held3 (fun r=>yIc r m.heap.size x G M I F N J∧r.cell? ⟨g,2,none⟩=some (.slice (some ⟨b,off,none⟩) l.length lc)) ((simp only[yIc];go_keep)) ((first|fail|(go_at_call 224;first|(refine(E.o _ _ _ _ e.o.drew.i.item (X.o _ e.o.drew.f)).mono ?_;rintro e3 w3 ⟨yv,rfl,a,j⟩;obtain⟨A1,c1,A2,c2,A3,c3,rfl⟩:=a.form;have p:=hid (e.o.go (z01 j));have F3:=hid (z01 j);have L:=hid (a.less (show B0≤_ from e.o.d.bz));obtain⟨k0,k1,k2,k3,k4⟩:=five p.o.b;have k5:=(p.o.d).three.2.2;clear j a T U S Y d4 d5 h0 h1 h2 h3 h4 h5)|(refine(E.o _ _ _ _ z.o.drew.i.item (X.o _ z.o.drew.f)).mono ?_;rintro e3 w3 ⟨yv,rfl,a,j⟩;obtain⟨A1,c1,A2,c2,A3,c3,rfl⟩:=a.form;have p:=hid (z.o.go (z01 j));have F3:=hid (z3v (z01 j));have Q:=hid (V2.o.f0 (z01 j));have y7:=five Q.o;have z7:=z11 Q.o;have L:=hid (a.less (show B0≤_ from z.o.d.bz));obtain⟨k0,k1,k2,k3,k4⟩:=five p.o.b;have k5:=(p.o.d).three.2.2;clear j a T U S Y d4 d5 h0 h1 h2 h3 h4 h5)))))
   | (guard_hyp a2
      go_region_held3 (fun r=>yIc r m.heap.size x G M I F N J∧r.cell? ⟨g,2,none⟩=some (.slice (some ⟨b,off,none⟩) l.length lc)) ((simp only[yIc];go_keep)) ((first|fail|(go_at_call 226;first|(refine(E.o _ _ _ _ e.o.drew.i.item (X.o _ e.o.drew.f)).mono ?_;rintro e3 w3 ⟨yv,rfl,a,j⟩;obtain⟨A1,c1,A2,c2,A3,c3,rfl⟩:=a.form;have p:=hid (e.o.go (z01 j));have F3:=hid (z01 j);have L:=hid (a.less (show B0≤_ from e.o.d.bz));obtain⟨k0,k1,k2,k3,k4⟩:=five p.o.b;have k5:=(p.o.d).three.2.2;clear j a T U S Y d4 d5 h0 h1 h2 h3 h4 h5)|(refine(E.o _ _ _ _ z.o.drew.i.item (X.o _ z.o.drew.f)).mono ?_;rintro e3 w3 ⟨yv,rfl,a,j⟩;obtain⟨A1,c1,A2,c2,A3,c3,rfl⟩:=a.form;have p:=hid (z.o.go (z01 j));have F3:=hid (z3v (z01 j));have Q:=hid (V2.o.f0 (z01 j));have y7:=five Q.o;have z7:=z11 Q.o;have L:=hid (a.less (show B0≤_ from z.o.d.bz));obtain⟨k0,k1,k2,k3,k4⟩:=five p.o.b;have k5:=(p.o.d).three.2.2;clear j a T U S Y d4 d5 h0 h1 h2 h3 h4 h5)))))
   | (guard_hyp K
      go_region_held3 (fun r=>yIc r m.heap.size x G M I F N J∧r.cell? ⟨g,2,none⟩=some (.slice (some ⟨b,off,none⟩) l.length lc)∧r.cell? ⟨b,off+1,none⟩=some (.string (wd l 1))) ((simp only[yIc];go_keep)) ((first|fail|(go_at_call 214;first|(refine(E.o _ _ e.o.drew.i.item).mono ?_;rintro e3 w3 ⟨yv,rfl,a,j⟩;obtain⟨A1,c1,A2,c2,A3,c3,rfl⟩:=a.form;have p:=hid (e.o.go (z01 j));have F3:=hid (z01 j);have L:=hid (a.less (show B0≤_ from e.o.d.bz));obtain⟨k0,k1,k2,k3,k4⟩:=five p.o.b;have k5:=(p.o.d).three.2.2;have k6:=p.o.f.cell (a0.o 1 (by omega)) (by simp);clear j a T U S Y d4 d5 d6 h0 h1 h2 h3 h4 h5 h6)|(refine(E.o _ _ z.o.drew.i.item).mono ?_;rintro e3 w3 ⟨yv,rfl,a,j⟩;obtain⟨A1,c1,A2,c2,A3,c3,rfl⟩:=a.form;have p:=hid (z.o.go (z01 j));have F3:=hid (z3v (z01 j));have Q:=hid (V2.o.f0 (z01 j));have y7:=five Q.o;have z7:=z11 Q.o;have L:=hid (a.less (show B0≤_ from z.o.d.bz));obtain⟨k0,k1,k2,k3,k4⟩:=five p.o.b;have k5:=(p.o.d).three.2.2;have k6:=p.o.f.cell (a0.o 1 (by omega)) (by simp);clear j a T U S Y d4 d5 d6 h0 h1 h2 h3 h4 h5 h6)))))
   | (guard_hyp O
      go_region_held3 (fun r=>yIc r m.heap.size x G M I F N J∧r.cell? ⟨g,2,none⟩=some (.slice (some ⟨b,off,none⟩) l.length lc)∧r.cell? ⟨b,off+1,none⟩=some (.string (wd l 1))) ((simp only[yIc];go_keep)) ((first|fail|(go_at_call 195;first|(refine(E.o _ _ e.o.drew.i.item).mono ?_;rintro e3 w3 ⟨yv,rfl,a,j⟩;obtain⟨A1,c1,A2,c2,A3,c3,rfl⟩:=a.form;have p:=hid (e.o.go (z01 j));have F3:=hid (z01 j);have L:=hid (a.less (show B0≤_ from e.o.d.bz));obtain⟨k0,k1,k2,k3,k4⟩:=five p.o.b;have k5:=(p.o.d).three.2.2;have k6:=p.o.f.cell (a0.o 1 (by omega)) (by simp);clear j a T U S Y d4 d5 d6 h0 h1 h2 h3 h4 h5 h6)|(refine(E.o _ _ z.o.drew.i.item).mono ?_;rintro e3 w3 ⟨yv,rfl,a,j⟩;obtain⟨A1,c1,A2,c2,A3,c3,rfl⟩:=a.form;have p:=hid (z.o.go (z01 j));have F3:=hid (z3v (z01 j));have Q:=hid (V2.o.f0 (z01 j));have y7:=five Q.o;have z7:=z11 Q.o;have L:=hid (a.less (show B0≤_ from z.o.d.bz));obtain⟨k0,k1,k2,k3,k4⟩:=five p.o.b;have k5:=(p.o.d).three.2.2;have k6:=p.o.f.cell (a0.o 1 (by omega)) (by simp);clear j a T U S Y d4 d5 d6 h0 h1 h2 h3 h4 h5 h6)))))
   | (go_region_held3 (fun r=>yIc r m.heap.size x G M I F N J) ((simp only[yIc];go_keep)) ((first|(go_at_call 200;(first|((with_reducible refine(I1.o _ ((e.o.go B.o)).f).mono ?_);rintro eq wq ⟨rfl,C⟩;have FN:=hid (B.o.trans C);clear B;have B:=FN;clear FN CC;(first|(have VN:=hid (P.o.f0 C);clear P;have P:=VN;clear VN)|skip))|((with_reducible refine(I1.o _ ((e.o.go (B.o.alloc (.cells yIza 68)))).f).mono ?_);rintro eq wq ⟨rfl,C⟩;obtain⟨al,ak⟩:=zvm (n:=m.heap.size) B.o (by simp);have HG:=hid B.o.size;have FN:=hid ((B.o.alloc (.cells yIza 68)).trans C);have P:=hid (Whole.fr (Whole.new _ 68 yIzl) C (by simp));clear B;have B:=FN;clear FN CC)|((with_reducible refine(I1.o _ ((e.o.go (Fr.refl [] _).drew)).f).mono ?_);rintro eq wq ⟨rfl,C⟩;have B:=hid ((Fr.refl [] (m.alloc (.cells (yIa x G M I F N J) 68))).drew.trans C))|((with_reducible refine(I1.o _ (z.o.drew).f).mono ?_);rintro eq wq ⟨rfl,C⟩;have B:=hid (((Fr.refl [] (m.alloc (.cells (yIa x G M I F N J) 68))).alloc (.cells yIza 68)).drew.trans C);have P:=hid (V2.o.f0 (z01 C));have HG:=hid (show(m.alloc (.cells (yIa x G M I F N J) 68)).heap.size≤m.heap.size+1 from by simp)));have CC:=hid (e.o.go B.o);(first|(have w7:=P.o.lt;clear w7;have y7:=five P.o;have z7:=z11 P.o)|skip);obtain⟨k0,k1,k2,k3,k4⟩:=five CC.o.b;clear C)|(go_at_call 199;(first|((with_reducible refine(E.o _ _ (e.o.go B.o).f (e.o.go B.o).i.item).mono ?_);rintro eq wq ⟨yv,rfl,a,C⟩;have L:=hid (a.less (show B0≤_ from((e.o.go B.o)).d.bz));have FN:=hid (B.o.trans C);clear B;have B:=FN;clear FN CC;(first|(have VN:=hid (P.o.f0 C);clear P;have P:=VN;clear VN)|skip))|((with_reducible refine(E.o _ _ ((e.o.go (B.o.alloc (.cells yIza 68)))).f ((e.o.go (B.o.alloc (.cells yIza 68)))).i.item).mono ?_);rintro eq wq ⟨yv,rfl,a,C⟩;have L:=hid (a.less (show B0≤_ from((e.o.go (B.o.alloc (.cells yIza 68)))).d.bz));obtain⟨al,ak⟩:=zvm (n:=m.heap.size) B.o (by simp);have HG:=hid B.o.size;have FN:=hid ((B.o.alloc (.cells yIza 68)).trans C);have P:=hid (Whole.fr (Whole.new _ 68 yIzl) C (by simp));clear B;have B:=FN;clear FN CC)|((with_reducible refine(E.o _ _ ((e.o.go (Fr.refl [] _).drew)).f ((e.o.go (Fr.refl [] _).drew)).i.item).mono ?_);rintro eq wq ⟨yv,rfl,a,C⟩;have L:=hid (a.less (show B0≤_ from((e.o.go (Fr.refl [] _).drew)).d.bz));have B:=hid ((Fr.refl [] (m.alloc (.cells (yIa x G M I F N J) 68))).drew.trans C))|((with_reducible refine(E.o _ _ (z.o.drew).f (z.o.drew).i.item).mono ?_);rintro eq wq ⟨yv,rfl,a,C⟩;have L:=hid (a.less (show B0≤_ from(z.o.drew).d.bz));have B:=hid (((Fr.refl [] (m.alloc (.cells (yIa x G M I F N J) 68))).alloc (.cells yIza 68)).drew.trans C);have P:=hid (V2.o.f0 (z01 C));have HG:=hid (show(m.alloc (.cells (yIa x G M I F N J) 68)).heap.size≤m.heap.size+1 from by simp)));have CC:=hid (e.o.go B.o);obtain⟨A1,c1,A2,c2,A3,c3,rfl⟩:=a.form;clear a;(first|(have w7:=P.o.lt;clear w7;have y7:=five P.o;have z7:=z11 P.o)|skip);obtain⟨k0,k1,k2,k3,k4⟩:=five CC.o.b;clear C))))
   all_goals
    go_wp2;go_meet
    first
    | (guard_hyp V
       case rel=>first|with_reducible exact⟨rfl,rfl,zfo.new L.o B.o⟩|exact⟨rfl,rfl,zfo.put L.o B.o HG.o P.o⟩)
    | (case rel=>first|with_reducible exact⟨rfl,rfl,zfo.new L.o F3.o⟩|exact⟨rfl,rfl,zfo.put L.o F3.o (by simp) Q.o⟩)
  first
  | (guard_hyp V
     clear T U S Y d4 h0 h1 h2 h3 h4)
  | (skip
     (first|guard_hyp K|guard_hyp O)
     clear T U S Y d4 d5 d6 h0 h1 h2 h3 h4 h5 h6)
  | (clear T U S Y d4 d5 h0 h1 h2 h3 h4 h5)
  obtain⟨rfl,rfl,gb,A1,c1,A2,c2,A3,c3,rfl,ad,hw,a,hf⟩:=hcut;have L:=hid a;have P:=hid hw;have C4:=hid (e.o.go hf);have aw:w.heap.size < gb:=by have:=e.o.f.size;simp at ad;have:=e.o.gx;omega
  clear hw a hf ad;obtain⟨m0,m1,m2,m3,m4⟩:=five P.o
  first
  | (guard_hyp a4
     go_upto_region 5 with fail)
  | (guard_hyp a1
     go_upto_region 8 with fail)
  | (guard_hyp a3
     go_upto_region 16 with fail)
  | (guard_hyp a2
     go_upto_region 13 with fail)
  | (guard_hyp K
     go_upto_region 19 with fail)
  | (guard_hyp O
     go_upto_region 12 with fail)
  | (go_upto_region 18 with fail)
  go_region_held3 (fun r=>yIc r gb y A1 c1 A2 c2 A3 c3) ((simp only[yIc];go_keep)) ((first|(go_at_call 197;refine(z1c _ _).mono ?_;rintro e5 w5 ⟨rfl,f5⟩;have C5:=hid (C4.o.go (z01 f5));have ac:=hid (P.o.f0 (z01 f5));have ah:=hid (L.o.go (z01 f5));clear f5 m0 m1 m2 m3 m4;obtain⟨m0,m1,m2,m3,m4⟩:=five ac.o)|(go_at_call 196;refine(CH.o _ _ _ C5.o.d ah.o (z1i.bare _ _ _ _ _)).mono ?_;rintro e6 w6 ⟨u,rfl,hu,f6,hd⟩;obtain⟨R,rc,rfl⟩:=hu.form;have aj:=hid (ac.o.fr f6 (fun hm=>by have:=(H.o.low _ hm).2;omega));have Q6:=hid (C5.o.q.fr f6 (fun hm=>by have:=(H.o.low _ hm).2;omega));have HU:=hid hu;have HD:=hid hd;have F6:=hid (C5.o.f.up.trans f6);clear f6 hu hd m0 m1 m2 m3 m4;obtain⟨m0,m1,m2,m3,m4⟩:=five aj.o;obtain⟨y0,y1,y2,y3⟩:=four Q6.o;obtain⟨z0,z1,z2,z3⟩:=z1p Q6.o;have an:¬gb=w.heap.size:=(by omega);have ao:¬w.heap.size=gb:=(by omega))))
  obtain⟨sp,pr⟩:=pp;go_wp2
  first
  | (guard_hyp a3
     refine Xg (v:=.agg (yRa pr R rc)) (by simp[results,results157,go_sem,y0,y1,y2,y3]) rfl ?_)
  | (guard_hyp a2
     refine Xg (v:=.agg (yRa pr R rc)) (by simp[results,results158,go_sem,y0,y1,y2,y3]) rfl ?_)
  | (guard_hyp K
     refine Xg (v:=.agg (yRa pr R rc)) (by simp[results,results155,go_sem,y0,y1,y2,y3]) rfl ?_)
  | (skip
     (first|guard_hyp a4|guard_hyp a1)
     refine Xg (v:=.agg (yRa pr R rc)) (by simp[results,results156,go_sem,y0,y1,y2,y3]) rfl ?_)
  | (refine Xg (v:=.agg (yRa pr R rc)) (by simp[results,results153,go_sem,y0,y1,y2,y3]) rfl ?_)
  exact ChD.fin4 HU.o F6.o Q6.o af HD.o
abbrev q2u:=@And.left _ _ q4t
abbrev q2w:=@And.left _ _ (@And.right _ _ q4t)
abbrev q2p:=@And.left _ _ (@And.right _ _ (@And.right _ _ q4t))
abbrev q31:=@And.left _ _ (@And.right _ _ (@And.right _ _ (@And.right _ _ q4t)))
abbrev q2s:=@And.left _ _ (@And.right _ _ (@And.right _ _ (@And.right _ _ (@And.right _ _ q4t))))
abbrev zqi:=@And.left _ _ (@And.right _ _ (@And.right _ _ (@And.right _ _ (@And.right _ _ (@And.right _ _ q4t)))))
abbrev ztx:=@And.right _ _ (@And.right _ _ (@And.right _ _ (@And.right _ _ (@And.right _ _ (@And.right _ _ q4t)))))
theorem q14(g B0:Nat)(sv)(now:Int)(lv)(l:YX)(s)(c0)(w)(ok:z22 s)(hn:3≤l.length)(h12:l.length≤11)(hz:∀t∈l,t.size≤60)(n1:Int)(h1:z5l (wd l 1).data.toList=some n1)(n2:Int)(h2:z5l (wd l 2).data.toList=some n2)(hv:Vars w)(h:Dr g B0 sv now lv l s w):(Calls prog 158 #[.pointer (some ⟨g,0,none⟩),.string ⟨#[122,114,97,110,103,101]⟩] w (ChD g B0 B0 sv now lv l (doC .zrange s now (c0 :: l)) w))∧(Calls prog 158 #[.pointer (some ⟨g,0,none⟩),.string ⟨#[122,114,97,110,103,101,98,121,115,99,111,114,101]⟩] w (ChD g B0 B0 sv now lv l (doC .zrangebyscore s now (c0 :: l)) w))∧(Calls prog 155 #[.pointer (some ⟨g,0,none⟩),.string ⟨#[108,114,97,110,103,101]⟩] w (ChD g B0 B0 sv now lv l (doC .lrange s now (c0 :: l)) w))∧(Calls prog 155 #[.pointer (some ⟨g,0,none⟩),.string ⟨#[108,116,114,105,109]⟩] w (ChD g B0 B0 sv now lv l (doC .ltrim s now (c0 :: l)) w)):=by
 refine⟨?_,?_,?_,?_⟩;have a4:=hid trivial
 rotate_left
 have a3:=hid trivial
 rotate_left
 have a8:=hid trivial
 rotate_left
 have ai:=hid trivial
 all_goals
  have hr:=ok.rise;have aa:=ok.le;have DI:=zDI hr aa h;have LS:=hid (z2n (z17 ok) now (wd l 0)).item;have N:wn (c0 :: l) 2=n1:=by show(z5l (wd l 1).data.toList).getD 0=n1;rw[h1];rfl
  have a9:=zgj h1;have I1:=zI1 (by omega) hz h1 hv h;have L:wn (c0 :: l) 3=n2:=by show(z5l (wd l 2).data.toList).getD 0=n2;rw[h2];rfl
  have a7:=zgj h2;have I2:=zI2 (by omega) hz h2 hv h;clear h1 h2 hv
  first
  | (guard_hyp a4
     have EP:doC .zrange s now (c0 :: l)=(s,orR (z2h (z79 (z00 s now (wd l 0)).item n1 n2)) (z02 5 (z00 s now (wd l 0)).item) false):=by
      show fin s now (wd l 0) (z00 s now (wd l 0)).item (z00 s now (wd l 0)).til false false (z02 5 (z00 s now (wd l 0)).item) (z2h (z79 (z00 s now (wd l 0)).item (wn (c0 :: l) 2) (wn (c0 :: l) 3)))=_;rw[N,L,z2g];skip
     have I:(z79 (z00 s now (wd l 0)).item n1 n2).length≤1000:=q0l (z00 s now (wd l 0)).item n1 n2;have DL:=hid (fun(W:World) u (k:Sl W W.heap.size 1 u (z79 (z00 s now (wd l 0)).item n1 n2).length (z03 (z79 (z00 s now (wd l 0)).item n1 n2)))=>z3g (z79 (z00 s now (wd l 0)).item n1 n2) u (z02 5 (z00 s now (wd l 0)).item) W I k);have OP:=hid (fun W u (k:z0p W W.heap.size u (z00 s now (wd l 0)).item)=>zg2 (z00 s now (wd l 0)).item u n1 n2 W W.heap.size LS.o (Xb _) k a9 a7);rw[EP];clear EP N L I)
  | (guard_hyp a3
     have EP:doC .zrangebyscore s now (c0 :: l)=(s,orR (z2h (z52 (z00 s now (wd l 0)).item n1 n2)) (z02 5 (z00 s now (wd l 0)).item) false):=by
      show fin s now (wd l 0) (z00 s now (wd l 0)).item (z00 s now (wd l 0)).til false false (z02 5 (z00 s now (wd l 0)).item) (z2h (z52 (z00 s now (wd l 0)).item (wn (c0 :: l) 2) (wn (c0 :: l) 3)))=_;rw[N,L,z2g];skip
     have I:(z52 (z00 s now (wd l 0)).item n1 n2).length≤1000:=zxb (z00 s now (wd l 0)).item n1 n2;have DL:=hid (fun(W:World) u (k:Sl W W.heap.size 1 u (z52 (z00 s now (wd l 0)).item n1 n2).length (z03 (z52 (z00 s now (wd l 0)).item n1 n2)))=>z3g (z52 (z00 s now (wd l 0)).item n1 n2) u (z02 5 (z00 s now (wd l 0)).item) W I k);have OP:=hid (fun W u (k:z0p W W.heap.size u (z00 s now (wd l 0)).item)=>zfd (z00 s now (wd l 0)).item u n1 n2 W W.heap.size LS.o (Xb _) k);rw[EP];clear EP N L I)
  | (guard_hyp a8
     have EP:doC .lrange s now (c0 :: l)=(s,orR (z2h (z2l (z00 s now (wd l 0)).item n1 n2)) (z02 2 (z00 s now (wd l 0)).item) false):=by
      show fin s now (wd l 0) (z00 s now (wd l 0)).item (z00 s now (wd l 0)).til false false (z02 2 (z00 s now (wd l 0)).item) (z2h (z28 ((z00 s now (wd l 0)).item).list (wn (c0 :: l) 2) (wn (c0 :: l) 3)))=_;rw[N,L,z2g];exact congrArg (Prod.mk s) (z8v fun h=>by unfold z2l;rw[Xf h])
     have I:(z2l (z00 s now (wd l 0)).item n1 n2).length≤1000:=by have:=(zf3 (z00 s now (wd l 0)).item n1 n2).1;omega
     have DL:=hid (fun(W:World) u (k:Sl W W.heap.size 1 u (z2l (z00 s now (wd l 0)).item n1 n2).length (z03 (z2l (z00 s now (wd l 0)).item n1 n2)))=>z3g (z2l (z00 s now (wd l 0)).item n1 n2) u (z02 2 (z00 s now (wd l 0)).item) W I k);have OP:=hid (fun W u (k:z0p W W.heap.size u (z00 s now (wd l 0)).item)=>(show Calls prog 212 #[u,.int .i64 n1,.int .i64 n2] W (zsq (z2l (z00 s now (wd l 0)).item n1 n2) (z02 2 (z00 s now (wd l 0)).item) W) from zaw (z00 s now (wd l 0)).item u n1 n2 W W.heap.size LS.o (Xb _) k a9 a7));rw[EP];clear EP N L I)
  | (have EP:doC .ltrim s now (c0 :: l)=fin s now (wd l 0) (ofL (z2l (z00 s now (wd l 0)).item n1 n2)) (z00 s now (wd l 0)).til true false (z02 2 (z00 s now (wd l 0)).item) (z4b tOK):=by
      show fin s now (wd l 0) (ofL (z28 ((z00 s now (wd l 0)).item).list (wn (c0 :: l) 2) (wn (c0 :: l) 3))) (z00 s now (wd l 0)).til true false (z02 2 (z00 s now (wd l 0)).item) (z4b tOK)=_;rw[N,L];by_cases h0:z02 2 (z00 s now (wd l 0)).item=0
      ·
       unfold z2l;rw[Xf h0]
      ·
       unfold fin;rw[Xc h0,Xc h0]
     have SY:=hid (show(ofL (z2l (z00 s now (wd l 0)).item n1 n2)).Small from zb0 (by have:=(zf3 (z00 s now (wd l 0)).item n1 n2).1;omega) (zf3 (z00 s now (wd l 0)).item n1 n2).2);have OP:=hid (fun W u (k:z0p W W.heap.size u (z00 s now (wd l 0)).item)=>zkh (z00 s now (wd l 0)).item u n1 n2 W W.heap.size LS.o (Xb _) k a9 a7);have CH:=zCH g B0 sv now lv l s w (ofL (z2l (z00 s now (wd l 0)).item n1 n2)) (z4b tOK) (z02 2 (z00 s now (wd l 0)).item) ok (by omega) SY;rw[EP];clear EP SY N L)
  have H:=hid h;have am:=h.lt;have a2:=h.bz;obtain⟨SA,sc,rfl⟩:=h.sform;obtain⟨LA,lc,rfl⟩:=h.lform;obtain⟨b,off,rfl,hb,hc,hm,ae⟩:=h.word (by omega);have ag:=hid ae;have DG:=hid (fun W (hW:Fr [] w W)=>(h.go hW).three);unfold maxLen at hm;clear h hr ae ok
  first
  | (guard_hyp a4
     generalize z79 (z00 s now (wd l 0)).item n1 n2=rr at *;generalize z02 5 (z00 s now (wd l 0)).item=cc at *)
  | (guard_hyp a3
     generalize z52 (z00 s now (wd l 0)).item n1 n2=rr at *;generalize z02 5 (z00 s now (wd l 0)).item=cc at *)
  | (guard_hyp a8
     generalize z2l (z00 s now (wd l 0)).item n1 n2=rr at *;generalize z02 2 (z00 s now (wd l 0)).item=cc at *)
  | (generalize fin s now (wd l 0) (ofL (z2l (z00 s now (wd l 0)).item n1 n2)) (z00 s now (wd l 0)).til true false (z02 2 (z00 s now (wd l 0)).item) (z4b tOK)=pp at *
     generalize ofL (z2l (z00 s now (wd l 0)).item n1 n2)=y at *;generalize z02 2 (z00 s now (wd l 0)).item=cc at *)
  generalize (z00 s now (wd l 0)).item=x at *
  first
  | (guard_hyp ai
     skip)
  | (generalize orR (z2h rr) cc false=q9 at *)
  have F0:=zF w;have Q0:=zQ w;obtain⟨z,A,p⟩:=DG.o _ F0.o;have dw:=F0.o.cell (ag.o 0 (by omega)) (by simp);rw[Ye] at dw
  first
  | (skip
     (first|guard_hyp a4|guard_hyp a3)
     go_enter func158,ntmps158)
  | (go_enter func155,ntmps155)
  go_wp2_with fail;refine(DI.o _ F0.o).mono ?_;rintro e1 m ⟨xv,rfl,hi,f1⟩;have F1:=hid (F0.o.trans f1);have Q1:=hid (Q0.o.f0 f1);have HI:=hid hi;obtain⟨P,U,Q,O,V,T,rfl⟩:=hi.form;have hz1:=f1.size;simp at hz1;clear f1 hi z A p dw;have E:=zC1 Q1 HI H F1
  first
  | (guard_hyp a4
     have a:=hid E.o.drew;have a5:¬w.heap.size=m.heap.size:=by omega
     have a6:¬m.heap.size=w.heap.size:=by omega
     obtain⟨z,A,p,C,D⟩:=five a.o.b;go_upto_region 21 with fail;go_region_held3 (fun Z=>yIc Z m.heap.size x P U Q O V T) ((simp only[yIc];go_keep)) ((first|(go_at_call 200;(first|(with_reducible refine(I1.o _ a.o.f).mono ?_)|(with_reducible refine(I2.o _ a.o.f).mono ?_));rintro F wq ⟨rfl,e⟩;have J:=hid (a.o.go e);clear a;have a:=J;clear J e z A p C D;obtain⟨z,A,p,C,D⟩:=five a.o.b)|(go_at_call 229;(first|(with_reducible refine(OP.o _ _ a.o.i.item).mono ?_));rintro F wq ⟨ur,rfl,K,e⟩;have Y:=hid (z0l K);clear K;have J:=hid (a.o.go e);clear a;have a:=J;clear J e z A p C D;obtain⟨z,A,p,C,D⟩:=five a.o.b)|(go_at_call 206;refine(DL.o _ _ Y.o).mono ?_;rintro F w8 ⟨u8,rfl,B,f8⟩;have G:=hid (a.o.go f8);have a0:=hid (B.base (show w.heap.size+1≤_ from a.o.q.lt));obtain⟨S,a1,rfl⟩:=B.form;clear B f8 z A p C D;obtain⟨z,A,p,C,D⟩:=five G.o.b;obtain⟨y0,y1,y2,y3⟩:=four G.o.q;obtain⟨z0,z1,z2,z3⟩:=z1p G.o.q)))
     go_wp2;refine Xg (v:=.agg (yRa q9 S a1)) (by simp[results,results158,go_sem,y0,y1,y2,y3]) rfl ?_;exact ChD.fin4 a0.o G.o.f.up G.o.q a2 (fun _=>⟨_,G.o.d⟩))
  | (guard_hyp a3
     have a:=hid E.o.drew;have a5:¬w.heap.size=m.heap.size:=by omega
     have a6:¬m.heap.size=w.heap.size:=by omega
     obtain⟨z,A,p,C,D⟩:=five a.o.b;go_upto_region 22 with fail;go_region_held3 (fun Z=>yIc Z m.heap.size x P U Q O V T) ((simp only[yIc];go_keep)) ((first|(go_at_call 200;(first|(with_reducible refine(I1.o _ a.o.f).mono ?_)|(with_reducible refine(I2.o _ a.o.f).mono ?_));rintro F wq ⟨rfl,e⟩;have J:=hid (a.o.go e);clear a;have a:=J;clear J e z A p C D;obtain⟨z,A,p,C,D⟩:=five a.o.b)|(go_at_call 230;(first|(with_reducible refine(OP.o _ _ a.o.i.item).mono ?_));rintro F wq ⟨ur,rfl,K,e⟩;have Y:=hid (z0l K);clear K;have J:=hid (a.o.go e);clear a;have a:=J;clear J e z A p C D;obtain⟨z,A,p,C,D⟩:=five a.o.b)|(go_at_call 206;refine(DL.o _ _ Y.o).mono ?_;rintro F w8 ⟨u8,rfl,B,f8⟩;have G:=hid (a.o.go f8);have a0:=hid (B.base (show w.heap.size+1≤_ from a.o.q.lt));obtain⟨S,a1,rfl⟩:=B.form;clear B f8 z A p C D;obtain⟨z,A,p,C,D⟩:=five G.o.b;obtain⟨y0,y1,y2,y3⟩:=four G.o.q;obtain⟨z0,z1,z2,z3⟩:=z1p G.o.q)))
     go_wp2;refine Xg (v:=.agg (yRa q9 S a1)) (by simp[results,results158,go_sem,y0,y1,y2,y3]) rfl ?_;exact ChD.fin4 a0.o G.o.f.up G.o.q a2 (fun _=>⟨_,G.o.d⟩))
  | (guard_hyp a8
     have a:=hid E.o.drew;have a5:¬w.heap.size=m.heap.size:=by omega
     have a6:¬m.heap.size=w.heap.size:=by omega
     obtain⟨z,A,p,C,D⟩:=five a.o.b;go_upto_region 14 with fail;go_region_held3 (fun Z=>yIc Z m.heap.size x P U Q O V T) ((simp only[yIc];go_keep)) ((first|(go_at_call 200;(first|(with_reducible refine(I1.o _ a.o.f).mono ?_)|(with_reducible refine(I2.o _ a.o.f).mono ?_));rintro F wq ⟨rfl,e⟩;have J:=hid (a.o.go e);clear a;have a:=J;clear J e z A p C D;obtain⟨z,A,p,C,D⟩:=five a.o.b)|(go_at_call 212;(first|(with_reducible refine(OP.o _ _ a.o.i.item).mono ?_));rintro F wq ⟨ur,rfl,K,e⟩;have Y:=hid (z0l K);clear K;have J:=hid (a.o.go e);clear a;have a:=J;clear J e z A p C D;obtain⟨z,A,p,C,D⟩:=five a.o.b)|(go_at_call 206;refine(DL.o _ _ Y.o).mono ?_;rintro F w8 ⟨u8,rfl,B,f8⟩;have G:=hid (a.o.go f8);have a0:=hid (B.base (show w.heap.size+1≤_ from a.o.q.lt));obtain⟨S,a1,rfl⟩:=B.form;clear B f8 z A p C D;obtain⟨z,A,p,C,D⟩:=five G.o.b;obtain⟨y0,y1,y2,y3⟩:=four G.o.q;obtain⟨z0,z1,z2,z3⟩:=z1p G.o.q)))
     go_wp2;refine Xg (v:=.agg (yRa q9 S a1)) (by simp[results,results155,go_sem,y0,y1,y2,y3]) rfl ?_;exact ChD.fin4 a0.o G.o.f.up G.o.q a2 (fun _=>⟨_,G.o.d⟩))
  | (obtain⟨z,A,p,C,D⟩:=five E.o.b
     have C2:=zC2 E;obtain⟨h0,h1,h2,h3,h4⟩:=five C2.o.b;have V2:=zV2 m (.cells (yIa x P U Q O V T) 68);go_upto_region 16 with fail;go_cut [12,13] (fun pb pe Z=>pe=.int .i64 cc∧zfo B0 y (m.alloc (.cells (yIa x P U Q O V T) 68)) pb Z)
     case first=>
      go_region_held3 (fun Z=>yIc Z m.heap.size x P U Q O V T) ((simp only[yIc];go_keep)) ((first|(go_at_call 200;(first|((with_reducible refine(I1.o _ ((E.o.go j.o)).f).mono ?_);rintro F wq ⟨rfl,e⟩;have M:=hid (j.o.trans e);clear j;have j:=M;clear M a;(first|(have VN:=hid (r.o.f0 e);clear r;have r:=VN;clear VN)|skip))|((with_reducible refine(I1.o _ ((E.o.go (j.o.alloc (.cells yIza 68)))).f).mono ?_);rintro F wq ⟨rfl,e⟩;obtain⟨ad,ac⟩:=zvm (n:=m.heap.size) j.o (by simp);have HG:=hid j.o.size;have M:=hid ((j.o.alloc (.cells yIza 68)).trans e);have r:=hid (Whole.fr (Whole.new _ 68 yIzl) e (by simp));clear j;have j:=M;clear M a)|((with_reducible refine(I1.o _ ((E.o.go (Fr.refl [] _).drew)).f).mono ?_);rintro F wq ⟨rfl,e⟩;have j:=hid ((Fr.refl [] (m.alloc (.cells (yIa x P U Q O V T) 68))).drew.trans e))|((with_reducible refine(I1.o _ (C2.o.drew).f).mono ?_);rintro F wq ⟨rfl,e⟩;have j:=hid (((Fr.refl [] (m.alloc (.cells (yIa x P U Q O V T) 68))).alloc (.cells yIza 68)).drew.trans e);have r:=hid (V2.o.f0 (z01 e));have HG:=hid (show(m.alloc (.cells (yIa x P U Q O V T) 68)).heap.size≤m.heap.size+1 from by simp))|((with_reducible refine(I2.o _ ((E.o.go j.o)).f).mono ?_);rintro F wq ⟨rfl,e⟩;have M:=hid (j.o.trans e);clear j;have j:=M;clear M a;(first|(have VN:=hid (r.o.f0 e);clear r;have r:=VN;clear VN)|skip))|((with_reducible refine(I2.o _ ((E.o.go (j.o.alloc (.cells yIza 68)))).f).mono ?_);rintro F wq ⟨rfl,e⟩;obtain⟨ad,ac⟩:=zvm (n:=m.heap.size) j.o (by simp);have HG:=hid j.o.size;have M:=hid ((j.o.alloc (.cells yIza 68)).trans e);have r:=hid (Whole.fr (Whole.new _ 68 yIzl) e (by simp));clear j;have j:=M;clear M a)|((with_reducible refine(I2.o _ ((E.o.go (Fr.refl [] _).drew)).f).mono ?_);rintro F wq ⟨rfl,e⟩;have j:=hid ((Fr.refl [] (m.alloc (.cells (yIa x P U Q O V T) 68))).drew.trans e))|((with_reducible refine(I2.o _ (C2.o.drew).f).mono ?_);rintro F wq ⟨rfl,e⟩;have j:=hid (((Fr.refl [] (m.alloc (.cells (yIa x P U Q O V T) 68))).alloc (.cells yIza 68)).drew.trans e);have r:=hid (V2.o.f0 (z01 e));have HG:=hid (show(m.alloc (.cells (yIa x P U Q O V T) 68)).heap.size≤m.heap.size+1 from by simp)));have a:=hid (E.o.go j.o);(first|(have w7:=r.o.lt;clear w7;have y7:=five r.o;have z7:=z11 r.o)|skip);obtain⟨k0,k1,k2,k3,k4⟩:=five a.o.b;clear e)|(go_at_call 213;(first|((with_reducible refine(OP.o _ _ ((E.o.go j.o)).i.item).mono ?_);rintro F wq ⟨yv,rfl,X,e⟩;have HY:=hid (X.less (show B0≤_ from((E.o.go j.o)).d.bz));have M:=hid (j.o.trans e);clear j;have j:=M;clear M a;(first|(have VN:=hid (r.o.f0 e);clear r;have r:=VN;clear VN)|skip))|((with_reducible refine(OP.o _ _ ((E.o.go (j.o.alloc (.cells yIza 68)))).i.item).mono ?_);rintro F wq ⟨yv,rfl,X,e⟩;have HY:=hid (X.less (show B0≤_ from((E.o.go (j.o.alloc (.cells yIza 68)))).d.bz));obtain⟨ad,ac⟩:=zvm (n:=m.heap.size) j.o (by simp);have HG:=hid j.o.size;have M:=hid ((j.o.alloc (.cells yIza 68)).trans e);have r:=hid (Whole.fr (Whole.new _ 68 yIzl) e (by simp));clear j;have j:=M;clear M a)|((with_reducible refine(OP.o _ _ ((E.o.go (Fr.refl [] _).drew)).i.item).mono ?_);rintro F wq ⟨yv,rfl,X,e⟩;have HY:=hid (X.less (show B0≤_ from((E.o.go (Fr.refl [] _).drew)).d.bz));have j:=hid ((Fr.refl [] (m.alloc (.cells (yIa x P U Q O V T) 68))).drew.trans e))|((with_reducible refine(OP.o _ _ (C2.o.drew).i.item).mono ?_);rintro F wq ⟨yv,rfl,X,e⟩;have HY:=hid (X.less (show B0≤_ from(C2.o.drew).d.bz));have j:=hid (((Fr.refl [] (m.alloc (.cells (yIa x P U Q O V T) 68))).alloc (.cells yIza 68)).drew.trans e);have r:=hid (V2.o.f0 (z01 e));have HG:=hid (show(m.alloc (.cells (yIa x P U Q O V T) 68)).heap.size≤m.heap.size+1 from by simp)));have a:=hid (E.o.go j.o);obtain⟨A1,c1,A2,c2,A3,c3,rfl⟩:=X.form;clear X;(first|(have w7:=r.o.lt;clear w7;have y7:=five r.o;have z7:=z11 r.o)|skip);obtain⟨k0,k1,k2,k3,k4⟩:=five a.o.b;clear e)))
      all_goals
       go_wp2;go_meet
       case rel=>first|with_reducible exact⟨rfl,zfo.new HY.o j.o⟩|exact⟨rfl,zfo.put HY.o j.o HG.o r.o⟩
     clear z A p C D h0 h1 h2 h3 h4;obtain⟨rfl,gb,A1,c1,A2,c2,A3,c3,rfl,af,hw,X,hf⟩:=hcut;have HY:=hid X;have r:=hid hw;have C4:=hid (E.o.go hf);have an:w.heap.size < gb:=by have:=E.o.f.size;simp at af;have:=E.o.gx;omega
     clear hw X hf af;obtain⟨m0,m1,m2,m3,m4⟩:=five r.o;go_upto_region 17 with fail;go_region_held3 (fun Z=>yIc Z gb y A1 c1 A2 c2 A3 c3) ((simp only[yIc];go_keep)) ((first|(go_at_call 152;refine(zdm _ _).mono ?_;rintro e5 w5 ⟨rfl,f5⟩;have C5:=hid (C4.o.go (z01 f5));have ab:=hid (r.o.f0 (z01 f5));have ah:=hid (HY.o.go (z01 f5));clear f5 m0 m1 m2 m3 m4;obtain⟨m0,m1,m2,m3,m4⟩:=five ab.o)|(go_at_call 196;refine(CH.o _ _ _ C5.o.d ah.o (z1i.bare _ _ _ _ _)).mono ?_;rintro e6 w6 ⟨u,rfl,hu,f6,hd⟩;obtain⟨R,rc,rfl⟩:=hu.form;have aj:=hid (ab.o.fr f6 (fun hm=>by have:=(H.o.low _ hm).2;omega));have Q6:=hid (C5.o.q.fr f6 (fun hm=>by have:=(H.o.low _ hm).2;omega));have HU:=hid hu;have HD:=hid hd;have F6:=hid (C5.o.f.up.trans f6);clear f6 hu hd m0 m1 m2 m3 m4;obtain⟨m0,m1,m2,m3,m4⟩:=five aj.o;obtain⟨y0,y1,y2,y3⟩:=four Q6.o;obtain⟨z0,z1,z2,z3⟩:=z1p Q6.o;have ak:¬gb=w.heap.size:=(by omega);have al:¬w.heap.size=gb:=(by omega))))
     obtain⟨sp,pr⟩:=pp;go_wp2;refine Xg (v:=.agg (yRa pr R rc)) (by simp[results,results155,go_sem,y0,y1,y2,y3]) rfl ?_;exact ChD.fin4 HU.o F6.o Q6.o a2 HD.o)
abbrev zu3:=fun g B0 sv now lv l s c0 w ok hn h12 hz n1 h1 n2 h2 hv h=>@And.left _ _ (q14 g B0 sv now lv l s c0 w ok hn h12 hz n1 h1 n2 h2 hv h)
abbrev zcz:=fun g B0 sv now lv l s c0 w ok hn h12 hz n1 h1 n2 h2 hv h=>@And.left _ _ (@And.right _ _ (q14 g B0 sv now lv l s c0 w ok hn h12 hz n1 h1 n2 h2 hv h))
abbrev zty:=fun g B0 sv now lv l s c0 w ok hn h12 hz n1 h1 n2 h2 hv h=>@And.left _ _ (@And.right _ _ (@And.right _ _ (q14 g B0 sv now lv l s c0 w ok hn h12 hz n1 h1 n2 h2 hv h)))
abbrev zyq:=fun g B0 sv now lv l s c0 w ok hn h12 hz n1 h1 n2 h2 hv h=>@And.right _ _ (@And.right _ _ (@And.right _ _ (q14 g B0 sv now lv l s c0 w ok hn h12 hz n1 h1 n2 h2 hv h)))
end
end Go.Proofs.YtnmoajaelmimnaaGreatDoor
