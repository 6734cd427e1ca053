/- Contracts that the proof of E3 uses. No condition beyond those in each theorem. -/
import Derived.Test.YtamgdmiopinidaaGreatDoorSlE341
set_option linter.unusedVariables false
set_option linter.unusedSimpArgs false
set_option maxHeartbeats 8000000
set_option maxRecDepth 100000
namespace Go.Proofs.YtamgdmiopinidaaGreatDoor
open Lib (hid)
open Go.Proofs.Tryz (prog)
open Go.RowKit
theorem zcn(s:List Ent)(now:Int)(key:ByteArray)(y:Itm)(til:Int)(chg nn:Bool)(e:Int){r:Rep}(h:r.kind≠2)(hk:(fin s now key y til chg nn e r).2.kind=2):(fin s now key y til chg nn e r).1=s:=by
 unfold fin at hk ⊢
 split at hk
 ·rename_i he
  rw[if_pos he]
  split at hk
  ·rename_i hc
   rw[if_pos hc]
   split at hk
   ·exact absurd hk h
   ·rename_i hp
    rw[if_neg hp]
  ·rename_i hc
   rw[if_neg hc]
 ·rename_i he
  rw[if_neg he]
  split <;> rfl
theorem zy3(n:Int):(z0h n).kind≠2:=by show(3:Int)≠2;decide
theorem zwl(t:ByteArray):(z2x t).kind≠2:=by show(1:Int)≠2;decide
theorem zx5(t:ByteArray):(z1b t).kind≠2:=by show(4:Int)≠2;decide
theorem zxq:zbq.kind≠2:=by show(5:Int)≠2;decide
theorem zxj(l:List ByteArray):(z25 l).kind≠2:=by show(6:Int)≠2;decide
theorem zpr(c:Cm)(s:List Ent)(now:Int)(l:List ByteArray)(hk:(doC c s now l).2.kind=2):(doC c s now l).1=s:=by
 have f1:=fun k y u a b e n (h:(fin s now k y u a b e (z0h n)).2.kind=2)=>zcn s now k y u a b e (zy3 n) h
 have f2:=fun k y u a b e n (h:(fin s now k y u a b e (z2x n)).2.kind=2)=>zcn s now k y u a b e (zwl n) h
 have f3:=fun k y u a b e n (h:(fin s now k y u a b e (z1b n)).2.kind=2)=>zcn s now k y u a b e (zx5 n) h
 have f4:=fun k y u a b e (h:(fin s now k y u a b e zbq).2.kind=2)=>zcn s now k y u a b e zxq h
 have f5:=fun k y u a b e n (h:(fin s now k y u a b e (z25 n)).2.kind=2)=>zcn s now k y u a b e (zxj n) h
 cases c
 case get=>
  simp only[doC] at hk ⊢
  by_cases h1:(z00 s now (wd l 1)).item.kind=0
  ·rw[if_pos h1] at hk ⊢;exact f4 _ _ _ _ _ _ hk
  ·rw[if_neg h1] at hk ⊢;exact f3 _ _ _ _ _ _ _ hk
 case del=>exact absurd hk (zy3 _)
 case expire=>
  simp only[doC] at hk ⊢
  by_cases h1:(z00 s now (wd l 1)).item.kind=0
  ·rw[if_pos h1]
  ·rw[if_neg h1] at hk ⊢
   by_cases h2:wn l 2 < 1
   ·rw[if_pos h2] at hk ⊢;exact f1 _ _ _ _ _ _ _ hk
   ·rw[if_neg h2] at hk ⊢;exact f1 _ _ _ _ _ _ _ hk
 case persist=>
  simp only[doC] at hk ⊢
  by_cases h1:(z00 s now (wd l 1)).item.kind=0∨(z00 s now (wd l 1)).til=0
  ·rw[if_pos h1]
  ·rw[if_neg h1] at hk ⊢;exact f1 _ _ _ _ _ _ _ hk
 all_goals
  simp only[doC] at hk ⊢
  try first
   | with_reducible exact f1 _ _ _ _ _ _ _ hk
   | with_reducible exact f2 _ _ _ _ _ _ _ hk
   | with_reducible exact f3 _ _ _ _ _ _ _ hk
   | with_reducible exact f5 _ _ _ _ _ _ _ hk
def ztw(s:List Ent)(now:Int)(l:List ByteArray)(w:World)(e:Ending)(w':World):Prop:=
 ∃u v,e=.returned (.tuple #[u,v])∧z1w w' w.heap.size u (doR s now l).1∧z1f w' w.heap.size v (doR s now l).2∧Fr [] w w'
theorem z9b{s:List Ent}(ok:z1m s):∀e∈s,e.item.list.length≤1000000∧e.item.pairs.length≤1000000∧e.item.scores.length≤1000000:=fun e he=>by
 have hm:=(z4h (ok.items e he)).many
 unfold many at hm
 omega
theorem zqj(s:List Ent)(sv:Value)(now:Int)(l:List ByteArray)(A:Option Addr)(c B:Nat)(w:World)(ok:z1m s)(hk:z1l l≠0)(hl:l.length≤281474976710656)(hv:Vars w)(hB:B≤w.heap.size)(hs:z0v w B sv s)(h:Sl w B 1 (.slice A l.length c) l.length (z03 l)) :
  Calls prog 29 #[sv,.int .i64 now,.slice A l.length c] w (ztw s now l w):=by
 have F0:=hid ((Fr.refl [] w).alloc (.cells #[.int .i64 0,.string ⟨#[]⟩,.int .i64 0,.slice none 0 0] 27))
 have Q0:=hid (Whole.new w 27 [.int .i64 0,.string ⟨#[]⟩,.int .i64 0,.slice none 0 0])
 have OW:=hid (fun W (hW:Fr [] w W)=>z2z s sv W B (z07 ok) (z9b ok) (by have:=ok.le;omega) (Nat.le_trans hB hW.size) (hs.fr hW hB (by simp)))
 have KN:=hid (fun W (hW:Fr [] w W)=>z9t l A c B W hl (hv.fr hW) (Nat.le_trans hB hW.size) (h.fr hW hB (by simp)))
 have E:=hid (show doR s now l=(s,z78 (z1l l)) from if_pos hk)
 unfold KnP at KN
 unfold ztw
 have q1:(z1l l != 0)=true:=by simpa using hk
 rw[E.out]
 clear h hs hk hv ok E
 generalize z1l l=code at *
 obtain⟨n,hn⟩:∃n,n=l.length:=⟨_,rfl⟩
 rw[←hn] at KN ⊢
 clear hn hl
 go_enter Tryz.func29,Tryz.ntmps29
 go_wp2_with fail
 refine(OW.out _ F0.out).mono ?_
 rintro e1 w1 ⟨u,rfl,hu,f1⟩
 have F1:=hid (F0.out.trans f1)
 have Q1:=hid (Q0.out.fr f1 (by simp))
 obtain⟨UA,uc,rfl⟩:=hu.form
 have HU:=hid hu
 clear f1 hu
 go_wp2_with fail
 refine(KN.out _ F1.out).mono ?_
 rintro e2 w2 ⟨rfl,f2⟩
 have F2:=hid (F1.out.trans f2)
 have Q2:=hid (Q1.out.fr f2 (by simp))
 have HU2:=hid (HU.out.fr f2)
 clear f2
 go_wp2_with fail
 refine(zag _ _).mono ?_
 rintro e3 w3 ⟨rfl,f3⟩
 have F3:=hid (F2.out.trans f3)
 have Q3:=hid (Q2.out.fr f3 (by simp))
 have HU3:=hid (HU2.out.fr f3)
 clear f3
 obtain⟨y0,y1,y2,y3⟩:=four Q3.out
 obtain⟨z0,z1,z2,z3⟩:=z0w Q3.out
 go_wp2
 refine bodyPost_ret (v:=.tuple #[.slice UA s.length uc,.agg #[.int .i64 2,.string ⟨#[]⟩,.int .i64 code,.slice none 0 0]]) (by simp[results,Tryz.results29,go_sem,y0,y1,y2,y3]) rfl ?_
 refine⟨_,_,rfl,?_,z1f.bare _ _ _ _ _,z1o F3.out (Nat.le_refl _) _ _ _ _⟩
 exact(HU3.out.set4W Q3.out _ _ _ _).base (by simp)
theorem zms(s:List Ent)(sv:Value)(now:Int)(l:List ByteArray)(A:Option Addr)(c B:Nat)(w:World)(ok:z1m s)(h0:0≤now∧now≤1000000)(hk:z1l l=0)(okp:z1m (doR s now l).1)(hc1:¬c=1)(hv:Vars w)(hB:B≤w.heap.size)(hs:z0v w B sv s)(h:Sl w B 1 (.slice A l.length c) l.length (z03 l)) :
  Calls prog 29 #[sv,.int .i64 now,.slice A l.length c] w (ztw s now l w):=by
 obtain⟨c0,l',cm,rfl,hlow,hcm,KF⟩:=z6n hk
 have hl12:=KF.le
 have F0:=hid ((Fr.refl [] w).alloc (.cells #[.int .i64 0,.string ⟨#[]⟩,.int .i64 0,.slice none 0 0] 27))
 have Q0:=hid (Whole.new w 27 [.int .i64 0,.string ⟨#[]⟩,.int .i64 0,.slice none 0 0])
 have OW:=hid (fun W (hW:Fr [] w W)=>z2z s sv W B (z07 ok) (z9b ok) (by have:=ok.le;omega) (Nat.le_trans hB hW.size) (hs.fr hW hB (by simp)))
 have KN:=hid (fun W (hW:Fr [] w W)=>z9t (c0 :: l') A c B W (by simp;omega) (hv.fr hW) (Nat.le_trans hB hW.size) (h.fr hW hB (by simp)))
 have E:=hid (show doR s now (c0 :: l')=doC cm s now (c0 :: l') from by unfold doR;rw[if_neg (by simpa using hk),hcm])
 have GD:=hid (z0f cm s now (c0 :: l'))
 have TWO:=hid (zpr cm s now (c0 :: l'))
 have hc0:c0.size≤281474976710656:=by
  have:=hk
  unfold z1l at this
  by_cases hw:z0r (c0 :: l')=0
  ·have:=(z3q hw).2.2 c0 (.head _);omega
  ·rw[if_pos hw] at this;exact absurd this hw
 have LW:=hid (fun W=>z9v c0 W hc0)
 rw[hlow] at LW
 unfold KnP at KN
 rw[hk] at KN
 unfold ztw
 rw[E.out] at okp ⊢
 obtain⟨b,off,rfl,hb,hcc,hm,hat⟩:=h.at_ (by simp)
 have x0:=hat 0 _ rfl
 rw[Nat.add_zero] at x0
 have TL:=hid (fun W (hW:Fr [] w W) B' (hB':B≤B')=>(zah (h.fr hW hB (by simp)) (by simp) hc1).more hB')
 have DA:=hid (fun(B0 g:Nat) W tv uv (hV:Vars W) (hd:Dr g B0 uv now tv l' s W)=>zu9 g B0 uv now tv l' s c0 cm W KF ok h0 hV hd)
 have HV:=hid hv
 have OK:=hid ok
 have OKP:=hid okp
 obtain⟨n,hn⟩:∃n,n=l'.length:=⟨_,rfl⟩
 have hlen:(c0 :: l').length=n+1:=by simp[hn]
 have ED:(c0 :: l').drop 1=l':=rfl
 have E1:n+1 - 1=n:=by omega
 rw[hlen] at KN hcc TL
 rw[hlen]
 rw[E1,ED] at TL
 have HN:=hid hn
 have ix0:(0:Int) < ((n+1:Nat):Int):=by omega
 have hbw:b < w.heap.size:=by omega
 have sx4:¬(c:Int)=1:=by omega
 unfold maxLen at hm
 clear h hs hk hv ok okp E hat hlow hcm KF hc0 hlen ED E1 hn
 generalize toB cm.bs=tl at *
 generalize doC cm s now (c0 :: l')=pp at *
 go_enter Tryz.func29,Tryz.ntmps29
 go_wp2_with fail
 refine(OW.out _ F0.out).mono ?_
 rintro e1 w1 ⟨u,rfl,hu,f1⟩
 have F1:=hid (F0.out.trans f1)
 have Q1:=hid (Q0.out.fr f1 (by simp))
 obtain⟨UA,uc,rfl⟩:=hu.form
 have HU:=hid hu
 clear f1 hu
 go_wp2_with fail
 refine(KN.out _ F1.out).mono ?_
 rintro e2 w2 ⟨rfl,f2⟩
 have F2:=hid (F1.out.trans f2)
 have Q2:=hid (Q1.out.fr f2 (by simp))
 have HU2:=hid (HU.out.fr f2)
 have x2:=F2.out.cell x0 (by simp)
 have hz2:=F2.out.size
 clear f2 x0
 have hbw2:b < w2.heap.size:=by omega
 have TV:=hid (TL.out w2 F2.out (w.heap.size+1) (by omega))
 have F3:=hid (F2.out.alloc (.cells #[.slice UA s.length uc,.int .i64 now,.slice (some ⟨b,off+1,none⟩) n (c - 1)] 117))
 have D3:=hid (show Dr w2.heap.size (w.heap.size+1) (.slice UA s.length uc) now (.slice (some ⟨b,off+1,none⟩) n (c - 1)) l' s (w2.alloc (.cells #[.slice UA s.length uc,.int .i64 now,.slice (some ⟨b,off+1,none⟩) n (c - 1)] 117)) from
  ⟨Whole.new w2 _ [.slice UA s.length uc,.int .i64 now,.slice (some ⟨b,off+1,none⟩) n (c - 1)],by have:=HU2.out.fr ((Fr.refl [] w2).alloc (.cells #[.slice UA s.length uc,.int .i64 now,.slice (some ⟨b,off+1,none⟩) n (c - 1)] 117));simpa using this,by rw[←HN.out];exact TV.out.fr ((Fr.refl [] w2).alloc _) (by have:=Q2.out.lt;omega) (by simp),by have:=Q2.out.lt;omega⟩)
 have Q3:=hid (Q2.out.alloc (.cells #[.slice UA s.length uc,.int .i64 now,.slice (some ⟨b,off+1,none⟩) n (c - 1)] 117))
 go_wp2_with fail
 refine(LW.out _).mono ?_
 rintro e4 w4 ⟨rfl,f4⟩
 have F4:=hid (F3.out.trans f4)
 have D4:=hid (D3.out.go f4)
 have Q4:=hid (Q3.out.fr f4 (by simp))
 clear f4 x2
 go_wp2_with fail
 refine(DA.out _ _ _ _ _ (HV.out.fr F4.out) D4.out).mono ?_
 rintro e5 w5 ⟨v,rfl,hr,f5,hd⟩
 have F5:=hid (F4.out.step f5 (fun j hj=>.inr (by have:=(D4.out.low j hj).1;omega)))
 have Q5:=hid (Q4.out.fr f5 (fun hj=>by have:=(D4.out.low _ hj).1;omega))
 have HR:=hid hr
 have HD:=hid hd
 obtain⟨R,rc,rfl⟩:=hr.form
 clear f5 hr hd
 have F6:=hid (F5.out.alloc (.cells #[.int .i64 pp.2.kind,.string pp.2.text,.int .i64 pp.2.n,.slice R pp.2.list.length rc] 27))
 have R6:=hid (Whole.new w5 27 [.int .i64 pp.2.kind,.string pp.2.text,.int .i64 pp.2.n,.slice R pp.2.list.length rc])
 have Q6:=hid (Q5.out.alloc (.cells #[.int .i64 pp.2.kind,.string pp.2.text,.int .i64 pp.2.n,.slice R pp.2.list.length rc] 27))
 have HR6:=hid (HR.out.fr ((Fr.refl [] w5).alloc (.cells #[.int .i64 pp.2.kind,.string pp.2.text,.int .i64 pp.2.n,.slice R pp.2.list.length rc] 27)))
 have hne1:¬w.heap.size=w5.heap.size:=by have:=Q5.out.lt;omega
 have hne2:¬w5.heap.size=w.heap.size:=by have:=Q5.out.lt;omega
 obtain⟨r0,r1,r2,r3⟩:=four R6.out
 obtain⟨q0,q1,q2,q3⟩:=four Q6.out
 obtain⟨z0,z1,z2,z3⟩:=z0w Q6.out
 by_cases hk2:pp.2.kind=2
 ·have k1:(pp.2.kind==2)=true:=by simpa using hk2
  have E1:=hid (TWO.out hk2)
  clear hk2 HD
  obtain⟨ps,pr⟩:=pp
  simp only at E1 k1 HR6 R6 Q6 F6 r0 r1 r2 r3 q0 q1 q2 q3 z0 z1 z2 z3 GD ⊢
  go_upto_region 8 with fail
  go_region_held3 (fun wx=>wx.cell? ⟨w5.heap.size,0,none⟩=some (.int .i64 pr.kind)∧wx.cell? ⟨w5.heap.size,1,none⟩=some (.string pr.text)∧wx.cell? ⟨w5.heap.size,2,none⟩=some (.int .i64 pr.n)∧wx.cell? ⟨w5.heap.size,3,none⟩=some (.slice R pr.list.length rc)) (go_keep) ((go_at_call 78;refine(OW.out _ F6.out.drew).mono ?_;rintro e7 w7 ⟨u7,rfl,ho,f7⟩;have F7:=hid (F6.out.trans (z01 f7));have R7:=hid (R6.out.fr (z01 f7) (by simp));have Q7:=hid (Q6.out.fr (z01 f7) (by simp));have HR7:=hid (HR6.out.fr (z01 f7));obtain⟨U7,uc7,rfl⟩:=ho.form;have HO7:=hid ho;clear f7 ho r0 r1 r2 r3 q0 q1 q2 q3 z0 z1 z2 z3;obtain⟨r0,r1,r2,r3⟩:=four R7.out;obtain⟨q0,q1,q2,q3⟩:=four Q7.out;obtain⟨z0,z1,z2,z3⟩:=z0w Q7.out))
  go_wp2
  refine bodyPost_ret (v:=.tuple #[.slice U7 s.length uc7,.agg #[.int .i64 pr.kind,.string pr.text,.int .i64 pr.n,.slice R pr.list.length rc]]) (by simp[results,Tryz.results29,go_sem,q0,q1,q2,q3]) rfl ?_
  refine⟨_,_,rfl,?_,z2k (HR7.out.base (Nat.le_succ _)) GD.out Q7.out _ _ _ _,z1o F7.out (Nat.le_refl _) _ _ _ _⟩
  rw[E1.out]
  exact(HO7.out.set4W Q7.out _ _ _ _).base (by have:=F6.out.size;simpa using this)
 ·have k1:(pp.2.kind==2)=false:=by simpa using hk2
  obtain⟨sv',hd5⟩:=HD.out hk2
  have D6:=hid (hd5.go ((Fr.refl [] w5).alloc (.cells #[.int .i64 pp.2.kind,.string pp.2.text,.int .i64 pp.2.n,.slice R pp.2.list.length rc] 27)))
  clear hk2 HD hd5
  obtain⟨ps,pr⟩:=pp
  simp only at k1 HR6 R6 Q6 F6 D6 r0 r1 r2 r3 q0 q1 q2 q3 z0 z1 z2 z3 GD OKP ⊢
  obtain⟨SA,sc,rfl⟩:=D6.out.sform
  have hne3:¬w.heap.size=w2.heap.size:=by have:=Q2.out.lt;omega
  have hne4:¬w2.heap.size=w.heap.size:=by have:=Q2.out.lt;omega
  obtain⟨d0,d1,d2⟩:=D6.out.three
  have OP:=hid (fun W (hW:Fr [] (w5.alloc (.cells #[.int .i64 pr.kind,.string pr.text,.int .i64 pr.n,.slice R pr.list.length rc] 27)) W)=>z2z ps (.slice SA ps.length sc) W W.heap.size (z07 OKP.out) (z9b OKP.out) (by have:=OKP.out.le;omega) (Nat.le_refl _) (D6.out.e.fr hW).v)
  clear d1 d2
  go_upto_region 9 with fail
  go_region_held3 (fun wx=>wx.cell? ⟨w5.heap.size,0,none⟩=some (.int .i64 pr.kind)∧wx.cell? ⟨w5.heap.size,1,none⟩=some (.string pr.text)∧wx.cell? ⟨w5.heap.size,2,none⟩=some (.int .i64 pr.n)∧wx.cell? ⟨w5.heap.size,3,none⟩=some (.slice R pr.list.length rc)∧wx.cell? ⟨w2.heap.size,0,none⟩=some (.slice SA ps.length sc)) (go_keep) ((go_at_call 78;refine(OP.out _ (Fr.refl [] _).drew).mono ?_;rintro e7 w7 ⟨u7,rfl,ho,f7⟩;have F7:=hid (F6.out.trans (z01 f7));have R7:=hid (R6.out.fr (z01 f7) (by simp));have Q7:=hid (Q6.out.fr (z01 f7) (by simp));have HR7:=hid (HR6.out.fr (z01 f7));have D7:=hid (D6.out.go (z01 f7));obtain⟨U7,uc7,rfl⟩:=ho.form;have HO7:=hid ho;clear f7 ho r0 r1 r2 r3 q0 q1 q2 q3 z0 z1 z2 z3 d0;obtain⟨r0,r1,r2,r3⟩:=four R7.out;obtain⟨q0,q1,q2,q3⟩:=four Q7.out;obtain⟨z0,z1,z2,z3⟩:=z0w Q7.out;have d0:=D7.out.three.1))
  go_wp2
  refine bodyPost_ret (v:=.tuple #[.slice U7 ps.length uc7,.agg #[.int .i64 pr.kind,.string pr.text,.int .i64 pr.n,.slice R pr.list.length rc]]) (by simp[results,Tryz.results29,go_sem,q0,q1,q2,q3]) rfl ?_
  refine⟨_,_,rfl,?_,z2k (HR7.out.base (Nat.le_succ _)) GD.out Q7.out _ _ _ _,z1o F7.out (Nat.le_refl _) _ _ _ _⟩
  exact(HO7.out.set4W Q7.out _ _ _ _).base (by have:=F6.out.size;simpa using this)
theorem zlp(s:List Ent)(sv:Value)(now:Int)(l:List ByteArray)(A:Option Addr)(c B:Nat)(w:World)(ok:z1m s)(h0:0≤now∧now≤1000000)(hk:z1l l=0)(okp:z1m (doR s now l).1)(hc1:c=1)(hv:Vars w)(hB:B≤w.heap.size)(hs:z0v w B sv s)(h:Sl w B 1 (.slice A l.length c) l.length (z03 l)) :
  Calls prog 29 #[sv,.int .i64 now,.slice A l.length c] w (ztw s now l w):=by
 obtain⟨c0,l',cm,rfl,hlow,hcm,KF⟩:=z6n hk
 subst hc1
 have hl0:l'=[]:=by
  obtain⟨_,_,_,_,hcc0,_,_⟩:=h.at_ (by simp)
  simpa using hcc0
 subst hl0
 have hl12:=KF.le
 have F0:=hid ((Fr.refl [] w).alloc (.cells #[.int .i64 0,.string ⟨#[]⟩,.int .i64 0,.slice none 0 0] 27))
 have Q0:=hid (Whole.new w 27 [.int .i64 0,.string ⟨#[]⟩,.int .i64 0,.slice none 0 0])
 have OW:=hid (fun W (hW:Fr [] w W)=>z2z s sv W B (z07 ok) (z9b ok) (by have:=ok.le;omega) (Nat.le_trans hB hW.size) (hs.fr hW hB (by simp)))
 have KN:=hid (fun W (hW:Fr [] w W)=>z9t (c0 :: []) A 1 B W (by simp) (hv.fr hW) (Nat.le_trans hB hW.size) (h.fr hW hB (by simp)))
 have E:=hid (show doR s now (c0 :: [])=doC cm s now (c0 :: []) from by unfold doR;rw[if_neg (by simpa using hk),hcm])
 have GD:=hid (z0f cm s now (c0 :: []))
 have TWO:=hid (zpr cm s now (c0 :: []))
 have hc0:c0.size≤281474976710656:=by
  have:=hk
  unfold z1l at this
  by_cases hw:z0r (c0 :: [])=0
  ·have:=(z3q hw).2.2 c0 (.head _);omega
  ·rw[if_pos hw] at this;exact absurd this hw
 have LW:=hid (fun W=>z9v c0 W hc0)
 rw[hlow] at LW
 unfold KnP at KN
 rw[hk] at KN
 unfold ztw
 rw[E.out] at okp ⊢
 obtain⟨b,off,rfl,hb,hcc,hm,hat⟩:=h.at_ (by simp)
 have x0:=hat 0 _ rfl
 rw[Nat.add_zero] at x0
 have TL:=hid (fun(W:World) (B':Nat)=>show Sl W B' 1 (.slice (some ⟨b,off,none⟩) 0 0) 0 (z03 []) from⟨some ⟨b,off,none⟩,0,rfl,by simp[z03],Nat.le_refl _,by simp[maxLen],fun h=>absurd h (by omega)⟩)
 have DA:=hid (fun(B0 g:Nat) W tv uv (hV:Vars W) (hd:Dr g B0 uv now tv [] s W)=>zu9 g B0 uv now tv [] s c0 cm W KF ok h0 hV hd)
 have HV:=hid hv
 have OK:=hid ok
 have OKP:=hid okp
 have hlen:(c0 :: ([]:List ByteArray)).length=1:=rfl
 rw[hlen] at KN hcc
 rw[hlen]
 have ix0:(0:Int) < ((1:Nat):Int):=by omega
 have hbw:b < w.heap.size:=by omega
 unfold maxLen at hm
 clear h hs hk hv ok okp E hat hlow hcm KF hc0 hlen
 generalize toB cm.bs=tl at *
 generalize doC cm s now (c0 :: [])=pp at *
 go_enter Tryz.func29,Tryz.ntmps29
 go_wp2_with fail
 refine(OW.out _ F0.out).mono ?_
 rintro e1 w1 ⟨u,rfl,hu,f1⟩
 have F1:=hid (F0.out.trans f1)
 have Q1:=hid (Q0.out.fr f1 (by simp))
 obtain⟨UA,uc,rfl⟩:=hu.form
 have HU:=hid hu
 clear f1 hu
 go_wp2_with fail
 refine(KN.out _ F1.out).mono ?_
 rintro e2 w2 ⟨rfl,f2⟩
 have F2:=hid (F1.out.trans f2)
 have Q2:=hid (Q1.out.fr f2 (by simp))
 have HU2:=hid (HU.out.fr f2)
 have x2:=F2.out.cell x0 (by simp)
 have hz2:=F2.out.size
 clear f2 x0
 have hbw2:b < w2.heap.size:=by omega
 have TV:=hid (TL.out w2 (w.heap.size+1))
 have F3:=hid (F2.out.alloc (.cells #[.slice UA s.length uc,.int .i64 now,.slice (some ⟨b,off,none⟩) 0 0] 117))
 have D3:=hid (show Dr w2.heap.size (w.heap.size+1) (.slice UA s.length uc) now (.slice (some ⟨b,off,none⟩) 0 0) [] s (w2.alloc (.cells #[.slice UA s.length uc,.int .i64 now,.slice (some ⟨b,off,none⟩) 0 0] 117)) from
  ⟨Whole.new w2 _ [.slice UA s.length uc,.int .i64 now,.slice (some ⟨b,off,none⟩) 0 0],by have:=HU2.out.fr ((Fr.refl [] w2).alloc (.cells #[.slice UA s.length uc,.int .i64 now,.slice (some ⟨b,off,none⟩) 0 0] 117));simpa using this,by exact TV.out.fr ((Fr.refl [] w2).alloc _) (by have:=Q2.out.lt;omega) (by simp),by have:=Q2.out.lt;omega⟩)
 have Q3:=hid (Q2.out.alloc (.cells #[.slice UA s.length uc,.int .i64 now,.slice (some ⟨b,off,none⟩) 0 0] 117))
 go_wp2_with fail
 refine(LW.out _).mono ?_
 rintro e4 w4 ⟨rfl,f4⟩
 have F4:=hid (F3.out.trans f4)
 have D4:=hid (D3.out.go f4)
 have Q4:=hid (Q3.out.fr f4 (by simp))
 clear f4 x2
 go_wp2_with fail
 refine(DA.out _ _ _ _ _ (HV.out.fr F4.out) D4.out).mono ?_
 rintro e5 w5 ⟨v,rfl,hr,f5,hd⟩
 have F5:=hid (F4.out.step f5 (fun j hj=>.inr (by have:=(D4.out.low j hj).1;omega)))
 have Q5:=hid (Q4.out.fr f5 (fun hj=>by have:=(D4.out.low _ hj).1;omega))
 have HR:=hid hr
 have HD:=hid hd
 obtain⟨R,rc,rfl⟩:=hr.form
 clear f5 hr hd
 have F6:=hid (F5.out.alloc (.cells #[.int .i64 pp.2.kind,.string pp.2.text,.int .i64 pp.2.n,.slice R pp.2.list.length rc] 27))
 have R6:=hid (Whole.new w5 27 [.int .i64 pp.2.kind,.string pp.2.text,.int .i64 pp.2.n,.slice R pp.2.list.length rc])
 have Q6:=hid (Q5.out.alloc (.cells #[.int .i64 pp.2.kind,.string pp.2.text,.int .i64 pp.2.n,.slice R pp.2.list.length rc] 27))
 have HR6:=hid (HR.out.fr ((Fr.refl [] w5).alloc (.cells #[.int .i64 pp.2.kind,.string pp.2.text,.int .i64 pp.2.n,.slice R pp.2.list.length rc] 27)))
 have hne1:¬w.heap.size=w5.heap.size:=by have:=Q5.out.lt;omega
 have hne2:¬w5.heap.size=w.heap.size:=by have:=Q5.out.lt;omega
 obtain⟨r0,r1,r2,r3⟩:=four R6.out
 obtain⟨q0,q1,q2,q3⟩:=four Q6.out
 obtain⟨z0,z1,z2,z3⟩:=z0w Q6.out
 by_cases hk2:pp.2.kind=2
 ·have k1:(pp.2.kind==2)=true:=by simpa using hk2
  have E1:=hid (TWO.out hk2)
  clear hk2 HD
  obtain⟨ps,pr⟩:=pp
  simp only at E1 k1 HR6 R6 Q6 F6 r0 r1 r2 r3 q0 q1 q2 q3 z0 z1 z2 z3 GD ⊢
  go_upto_region 8 with fail
  go_region_held3 (fun wx=>wx.cell? ⟨w5.heap.size,0,none⟩=some (.int .i64 pr.kind)∧wx.cell? ⟨w5.heap.size,1,none⟩=some (.string pr.text)∧wx.cell? ⟨w5.heap.size,2,none⟩=some (.int .i64 pr.n)∧wx.cell? ⟨w5.heap.size,3,none⟩=some (.slice R pr.list.length rc)) (go_keep) ((go_at_call 78;refine(OW.out _ F6.out.drew).mono ?_;rintro e7 w7 ⟨u7,rfl,ho,f7⟩;have F7:=hid (F6.out.trans (z01 f7));have R7:=hid (R6.out.fr (z01 f7) (by simp));have Q7:=hid (Q6.out.fr (z01 f7) (by simp));have HR7:=hid (HR6.out.fr (z01 f7));obtain⟨U7,uc7,rfl⟩:=ho.form;have HO7:=hid ho;clear f7 ho r0 r1 r2 r3 q0 q1 q2 q3 z0 z1 z2 z3;obtain⟨r0,r1,r2,r3⟩:=four R7.out;obtain⟨q0,q1,q2,q3⟩:=four Q7.out;obtain⟨z0,z1,z2,z3⟩:=z0w Q7.out))
  go_wp2
  refine bodyPost_ret (v:=.tuple #[.slice U7 s.length uc7,.agg #[.int .i64 pr.kind,.string pr.text,.int .i64 pr.n,.slice R pr.list.length rc]]) (by simp[results,Tryz.results29,go_sem,q0,q1,q2,q3]) rfl ?_
  refine⟨_,_,rfl,?_,z2k (HR7.out.base (Nat.le_succ _)) GD.out Q7.out _ _ _ _,z1o F7.out (Nat.le_refl _) _ _ _ _⟩
  rw[E1.out]
  exact(HO7.out.set4W Q7.out _ _ _ _).base (by have:=F6.out.size;simpa using this)
 ·have k1:(pp.2.kind==2)=false:=by simpa using hk2
  obtain⟨sv',hd5⟩:=HD.out hk2
  have D6:=hid (hd5.go ((Fr.refl [] w5).alloc (.cells #[.int .i64 pp.2.kind,.string pp.2.text,.int .i64 pp.2.n,.slice R pp.2.list.length rc] 27)))
  clear hk2 HD hd5
  obtain⟨ps,pr⟩:=pp
  simp only at k1 HR6 R6 Q6 F6 D6 r0 r1 r2 r3 q0 q1 q2 q3 z0 z1 z2 z3 GD OKP ⊢
  obtain⟨SA,sc,rfl⟩:=D6.out.sform
  have hne3:¬w.heap.size=w2.heap.size:=by have:=Q2.out.lt;omega
  have hne4:¬w2.heap.size=w.heap.size:=by have:=Q2.out.lt;omega
  obtain⟨d0,d1,d2⟩:=D6.out.three
  have OP:=hid (fun W (hW:Fr [] (w5.alloc (.cells #[.int .i64 pr.kind,.string pr.text,.int .i64 pr.n,.slice R pr.list.length rc] 27)) W)=>z2z ps (.slice SA ps.length sc) W W.heap.size (z07 OKP.out) (z9b OKP.out) (by have:=OKP.out.le;omega) (Nat.le_refl _) (D6.out.e.fr hW).v)
  clear d1 d2
  go_upto_region 9 with fail
  go_region_held3 (fun wx=>wx.cell? ⟨w5.heap.size,0,none⟩=some (.int .i64 pr.kind)∧wx.cell? ⟨w5.heap.size,1,none⟩=some (.string pr.text)∧wx.cell? ⟨w5.heap.size,2,none⟩=some (.int .i64 pr.n)∧wx.cell? ⟨w5.heap.size,3,none⟩=some (.slice R pr.list.length rc)∧wx.cell? ⟨w2.heap.size,0,none⟩=some (.slice SA ps.length sc)) (go_keep) ((go_at_call 78;refine(OP.out _ (Fr.refl [] _).drew).mono ?_;rintro e7 w7 ⟨u7,rfl,ho,f7⟩;have F7:=hid (F6.out.trans (z01 f7));have R7:=hid (R6.out.fr (z01 f7) (by simp));have Q7:=hid (Q6.out.fr (z01 f7) (by simp));have HR7:=hid (HR6.out.fr (z01 f7));have D7:=hid (D6.out.go (z01 f7));obtain⟨U7,uc7,rfl⟩:=ho.form;have HO7:=hid ho;clear f7 ho r0 r1 r2 r3 q0 q1 q2 q3 z0 z1 z2 z3 d0;obtain⟨r0,r1,r2,r3⟩:=four R7.out;obtain⟨q0,q1,q2,q3⟩:=four Q7.out;obtain⟨z0,z1,z2,z3⟩:=z0w Q7.out;have d0:=D7.out.three.1))
  go_wp2
  refine bodyPost_ret (v:=.tuple #[.slice U7 ps.length uc7,.agg #[.int .i64 pr.kind,.string pr.text,.int .i64 pr.n,.slice R pr.list.length rc]]) (by simp[results,Tryz.results29,go_sem,q0,q1,q2,q3]) rfl ?_
  refine⟨_,_,rfl,?_,z2k (HR7.out.base (Nat.le_succ _)) GD.out Q7.out _ _ _ _,z1o F7.out (Nat.le_refl _) _ _ _ _⟩
  exact(HO7.out.set4W Q7.out _ _ _ _).base (by have:=F6.out.size;simpa using this)
end Go.Proofs.YtamgdmiopinidaaGreatDoor
