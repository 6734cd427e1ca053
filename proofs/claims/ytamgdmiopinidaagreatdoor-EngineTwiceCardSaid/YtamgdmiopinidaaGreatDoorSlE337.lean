/- Contracts that the proof of E3 uses. No condition beyond those in each theorem. -/
import Derived.Test.YtamgdmiopinidaaGreatDoorSlE329
import Derived.Test.YtamgdmiopinidaaGreatDoorSlE336
set_option linter.unusedVariables false
set_option linter.unusedSimpArgs false
set_option maxHeartbeats 8000000
set_option maxRecDepth 100000
namespace Go.Proofs.YtamgdmiopinidaaGreatDoor
open Lib (hid)
open Go.Proofs.Tryz (prog)
open Go.RowKit
theorem zed:∀(l:List ByteArray) (k:Nat),2 * k+1 < l.length→(z1p l)[k]? = some (wd l (2 * k),wd l (2 * k+1))
 | [],_,h=>by simp at h
 | [a],k,h=>by simp at h
 | a :: b :: l,0,_=>rfl
 | a :: b :: l,k+1,h=>by
  have:=zed l k (by simp at h;omega)
  show(z1p l)[k]? = _
  rw[this]
  rfl
theorem zd3:∀(l:List ByteArray) (m:Nat),l.length=2 * m→(z1p l).length=m
 | [],m,h=>by
  have:m=0:=by simp at h;omega
  subst this;rfl
 | [a],m,h=>by simp at h;omega
 | a :: b :: l,0,h=>by simp at h
 | a :: b :: l,m+1,h=>by
  show(z1p l).length+1=_
  rw[zd3 l m (by simp at h;omega)]
theorem zju{a b:Value}{h:([a,b].all Value.oneCell')=true}:∀u∈[a,b],u.oneCell'=true:=fun u hu=>List.all_eq_true.1 h u hu
theorem zhc{l:List ByteArray}{k:Nat}(h:2 * k+2 < l.length):(z1p (l.drop 1))[k]? = some (wd l (2 * k+1),wd l (2 * k+2)):=by
 have:=zed (l.drop 1) k (by rw[List.length_drop];omega)
 rw[this]
 have e:∀j,wd (l.drop 1) j=wd l (j+1):=fun j=>by
  unfold wd
  rw[List.getD_eq_getElem?_getD,List.getD_eq_getElem?_getD,List.getElem?_drop,Nat.add_comm]
 rw[e,e]
theorem zuy(g B0:Nat)(sv:Value)(now:Int)(lv:Value)(l:List ByteArray)(s:List Ent)(c0:ByteArray)(w:World)(ok:z1m s)(hn:3≤l.length)(h12:l.length≤11)(hz:∀t∈l,t.size≤60)(mm:Nat)(hmm:l.length=2 * mm+1)(h:Dr g B0 sv now lv l s w) :
  Calls prog 132 #[.pointer (some ⟨g,0,none⟩),.string ⟨#[104,115,101,116]⟩] w (ChD g B0 B0 sv now lv l (doC .hset s now (c0 :: l)) w):=by
 have hr:=ok.rise
 have hs16:=ok.le
 have DI:=zDI hr hs16 h
 have LS:=hid (z0a (z07 ok) now (wd l 0)).item
 have hzw:∀i,(wd l i).size≤60:=z0s hz
 obtain⟨i0,hi9,hz90,hz91,hz92⟩:=info_parts z97
 have EP:doC .hset s now (c0 :: l)=fin s now (wd l 0) (zl9 (z00 s now (wd l 0)).item (z1p (l.drop 1))) (z00 s now (wd l 0)).til true false (z1v (z00 s now (wd l 0)).item (z1p (l.drop 1))) (z0h (zr6 (z00 s now (wd l 0)).item (z1p (l.drop 1)))):=rfl
 have SY:=hid (show(zl9 (z00 s now (wd l 0)).item (z1p (l.drop 1))).Small from zlx _ _)
 have PLN:=zd3 (l.drop 1) mm (by rw[List.length_drop];omega)
 have OP:=hid (fun W u A c (k:z0q W W.heap.size u (z00 s now (wd l 0)).item) (q:Sl W W.heap.size 2 (.slice A (z1p (l.drop 1)).length c) (z1p (l.drop 1)).length (z0e (z1p (l.drop 1))))=>zi5 (z00 s now (wd l 0)).item u (z1p (l.drop 1)) A c W W.heap.size LS.out (Nat.le_refl _) k (by rw[PLN];omega) q)
 have CH:=zCH g B0 sv now lv l s w (zl9 (z00 s now (wd l 0)).item (z1p (l.drop 1))) (z0h (zr6 (z00 s now (wd l 0)).item (z1p (l.drop 1)))) (z1v (z00 s now (wd l 0)).item (z1p (l.drop 1))) ok (by omega) SY
 have PAT:=hid (fun k (hk:2 * k+2 < l.length)=>zhc hk)
 have PLH:=hid PLN
 have HMM:=hid hmm
 rw[EP]
 clear EP SY PLN hmm
 have H:=hid h
 have hlt:=h.lt
 have hbz:=h.bz
 obtain⟨SA,sc,rfl⟩:=h.sform
 obtain⟨LA,lc,rfl⟩:=h.lform
 obtain⟨b,off,rfl,hb,hc,hm,hat⟩:=h.word (by omega)
 have HAT:=hid hat
 have DG:=hid (fun W (hW:Fr [] w W)=>(h.go hW).three)
 unfold maxLen at hm
 clear h hr hat hzw ok
 generalize fin s now (wd l 0) (zl9 (z00 s now (wd l 0)).item (z1p (l.drop 1))) (z00 s now (wd l 0)).til true false (z1v (z00 s now (wd l 0)).item (z1p (l.drop 1))) (z0h (zr6 (z00 s now (wd l 0)).item (z1p (l.drop 1))))=pp at *
 generalize zl9 (z00 s now (wd l 0)).item (z1p (l.drop 1))=y at *
 generalize zr6 (z00 s now (wd l 0)).item (z1p (l.drop 1))=nn at *
 generalize z1v (z00 s now (wd l 0)).item (z1p (l.drop 1))=cc at *
 generalize (z00 s now (wd l 0)).item=x at *
 generalize z1p (l.drop 1)=pl at *
 have F0:=zF w
 have Q0:=zQ w
 obtain⟨d0,d1,d2⟩:=DG.out _ F0.out
 have dw:=F0.out.cell (HAT.out 0 (by omega)) (by simp)
 rw[Nat.add_zero] at dw
 go_enter Tryz.func132,Tryz.ntmps132
 go_wp2_with fail
 refine(DI.out _ F0.out).mono ?_
 rintro e1 w1 ⟨xv,rfl,hi,f1⟩
 have F1:=hid (F0.out.trans f1)
 have Q1:=hid (Q0.out.fr f1 (by simp))
 have HI:=hid hi
 obtain⟨X1,x1,X2,x2,X3,x3,rfl⟩:=hi.form
 have hz1:=f1.size
 simp at hz1
 clear f1 hi d0 d1 d2 dw
 have C1:=zC1 Q1 HI H F1
 obtain⟨w3,hw3⟩:∃w3,w3=w1.alloc (.cells #[.int .i64 x.kind,.string x.text,.slice X1 x.list.length x1,.slice X2 x.pairs.length x2,.slice X3 x.scores.length x3] 43):=⟨_,rfl⟩
 have C3:=hid (show Cw g B0 _ now _ l s w1.heap.size [.int .i64 x.kind,.string x.text,.slice X1 x.list.length x1,.slice X2 x.pairs.length x2,.slice X3 x.scores.length x3] x w w3 from hw3 ▸ C1.out)
 have FW3:=hid (show Fr [] w3 (w1.alloc (.cells #[.int .i64 x.kind,.string x.text,.slice X1 x.list.length x1,.slice X2 x.pairs.length x2,.slice X3 x.scores.length x3] 43)) from hw3 ▸ Fr.refl [] w3)
 have O3:=hid (show(w1.alloc (.cells #[.int .i64 x.kind,.string x.text,.slice X1 x.list.length x1,.slice X2 x.pairs.length x2,.slice X3 x.scores.length x3] 43)).ownsRow w3.heap.size 86 2 (.slice none 0 0) 0 (z0e (pl.take 0)) from World.ownsRow_nil _ _ _ _)
 have hz3:=C3.out.f.size
 have hbl:b < w.heap.size:=by omega
 clear hw3 C1
 go_wp2
 go_loopg [6,7] mm (fun yy sl i wr=>∃(k:Nat) (Ao:Option Addr) (co:Nat),yy=mm - k∧k≤mm∧sl=.slice Ao k co∧i=.int .i64 ((2 * k+1:Nat):Int)∧wr.ownsRow w3.heap.size 86 2 (.slice Ao k co) k (z0e (pl.take k))∧Fr [] w3 wr)
 case atStart=>exact⟨0,none,0,rfl,Nat.zero_le _,rfl,rfl,O3.out,FW3.out⟩
 case round=>
  obtain⟨k,Ao,co,rfl,hk,rfl,rfl,hown,hf⟩:=hrel
  have HO:=hid hown
  have F:=hid hf
  have CR:=hid (C3.out.go hf)
  have hzr:=hf.size
  have hLL:=HMM.out
  clear hown hf
  by_cases hlt:k < mm
  ·have hk2:2 * k+2 < l.length:=by omega
   have PK:=hid (PAT.out k hk2)
   have HAT1:=hid (HAT.out (2 * k+1) (by omega))
   have HAT2:=hid (HAT.out (2 * k+2) (by omega))
   have e1:=CR.out.f.cell HAT1.out (by simp)
   have e2:=CR.out.f.cell HAT2.out (by simp)
   have e0:=CR.out.d.three.2.2
   have TK:Hid (z0e (pl.take (k+1))=z0e (pl.take k)++[.string (wd l (2 * k+1)),.string (wd l (2 * k+2))]):=hid (by
    rw[List.take_add_one,PK.out]
    simp[z0e])
   generalize hq1:wd l (2 * k+1)=t1 at *
   generalize hq2:wd l (2 * k+2)=t2 at *
   clear hq1 hq2 PK
   obtain⟨m,hm2⟩:∃m,m=2 * k+1:=⟨_,rfl⟩
   have hm3:2 * k+2=m+1:=by omega
   rw[hm3] at e2 HAT2
   rw[←hm2] at e1 HAT1
   rw[←hm2]
   have HM2:=hid hm2
   have jx0:(0:Int)≤(m:Int):=by omega
   have jx1:(m:Int) < (l.length:Int):=by omega
   have jx2:(0:Int)≤(m:Int)+1:=by omega
   have jx3:(m:Int)+1 < (l.length:Int):=by omega
   have jx4:m+1 < l.length:=by omega
   have jx5:m < l.length:=by omega
   have jw:IntKind.i64.wrap ((m:Int)+1)=(m:Int)+1:=IntWalk.i64_in _ (by omega)
   have jt:((m:Int)+1).toNat=m+1:=by omega
   have c1':k+1≤9223372036854775807:=by omega
   have c2':(k+1) * 32≤140737488355328:=by omega
   have c3':w3.heap.size≤wr.heap.size:=hzr
   clear hm2 hm3 hk2 hLL
   have FQ:=hid (show((wr.alloc (.cells #[.string t1,.string t2] 86)).drew).ownsRow w3.heap.size 86 2 (.slice Ao k co) k (z0e (pl.take k)) from HO.out.alloc _)
   have hO1:=hid (show Sl ((wr.alloc (.cells #[.string t1,.string t2] 86)).drew) ((wr.alloc (.cells #[.string t1,.string t2] 86)).drew).heap.size 2 (.slice (some ⟨wr.heap.size,0,none⟩) 1 1) 1 [.string t1,.string t2] from z0t (World.ownsRow_lit (base:=wr.heap.size) (e:=86) (size:=2) wr #[.string t1,.string t2] 1 (Nat.le_refl _) (by decide) rfl))
   have FB:=hid (F.out.alloc (.cells #[.string t1,.string t2] 86)).drew
   go_upto_region 8 with fail
   go_region_held3 (fun wx=>wx.cell? ⟨g,2,none⟩=some (.slice (some ⟨b,off,none⟩) l.length lc)∧wx.cell? ⟨b,off+m,none⟩=some (.string t1)∧wx.cell? ⟨b,off+(m+1),none⟩=some (.string t2)) (go_keep) ((first|(refine z8d _ rfl _ _ 40 rfl w3.heap.size 86 i0 _ 2 32 Tryz.underlying40 hi9 hz90 hz91 hz92 rfl (by decide) _ _ _ rfl FQ.out _ _ 1 _ rfl hO1.out (zju (h:=rfl)) ?c1 ?c2 ?c3 ?_;(case c1=>(unfold maxLen;omega));(case c2=>omega);(case c3=>first|omega|(simp;omega));intro v5 w5 hown hgrow hat5;have F5:=hid (FB.out.grown hgrow (fun j hj=>.inr ((HO.out.lt j hj).1)));have HW5:=hid hown;obtain⟨A5,c5,rfl,-⟩:=z06 hown;have C5:=hid (C3.out.go F5.out);clear hown hgrow hat5 e0 e1 e2;have e0:=C5.out.d.three.2.2;have e1:=C5.out.f.cell (HAT1.out) (by simp);have e2:=C5.out.f.cell (HAT2.out) (by simp))))
   have HK5:=hid (show w5.ownsRow w3.heap.size 86 2 (.slice A5 (k+1) c5) (k+1) (z0e (pl.take (k+1))) from by rw[TK.out];exact HW5.out)
   clear e0 e1 e2
   go_wp2
   go_roundg (mm - (k+1))
   case measure=>omega
   case rel=>exact⟨k+1,A5,c5,rfl,by omega,rfl,congrArg (Value.int .i64) (by have:=HM2.out;omega),HK5.out,F5.out⟩
  ·obtain rfl:k=mm:=by omega
   have jz:¬(((2 * k+1:Nat):Int) < (l.length:Int)):=by omega
   have jz2:¬2 * k+1 < l.length:=by omega
   have jz3:¬(2 * (k:Int)+1 < (l.length:Int)):=by omega
   have jz4:decide (2 * (k:Int)+1 < (l.length:Int))=false:=decide_eq_false jz3
   have HS9:=hid (show Sl wr wr.heap.size 2 (.slice Ao k co) k (z0e pl) from by
    have:=z0t HO.out
    rw[List.take_of_length_le (by rw[PLH.out];exact Nat.le_refl _)] at this
    exact this)
   have OP2:=hid (fun W u A c (q1:z0q W W.heap.size u x) (q:Sl W W.heap.size 2 (.slice A k c) k (z0e pl))=>(show Calls prog 194 #[u,.slice A k c] W (z4k nn cc y W) from by
    have h:=OP.out W u A c q1
    rw[PLH.out] at h
    exact h q))
   have e0:=CR.out.d.three.2.2
   obtain⟨d0,d1,d2,d3,d4⟩:=five CR.out.b
   clear hLL hlt
   go_wp2_with fail
   refine(OP2.out _ _ _ _ CR.out.i.item HS9.out).mono ?_
   rintro e9 wq ⟨yv,rfl,hy,fq⟩
   have CN:=hid (CR.out.go fq)
   have HY0:=hid (hy.less (show B0≤_ from CR.out.d.bz))
   obtain⟨A1,c1,A2,c2,A3,c3,rfl⟩:=hy.form
   have hzq:=CN.out.f.size
   have VB:=hid (Whole.new wq 43 [.int .i64 y.kind,.string y.text,.slice A1 y.list.length c1,.slice A2 y.pairs.length c2,.slice A3 y.scores.length c3])
   have C4:=hid (CN.out.go ((Fr.refl [] wq).alloc (.cells #[.int .i64 y.kind,.string y.text,.slice A1 y.list.length c1,.slice A2 y.pairs.length c2,.slice A3 y.scores.length c3] 43)))
   have HY:=hid (HY0.out.go ((Fr.refl [] wq).alloc (.cells #[.int .i64 y.kind,.string y.text,.slice A1 y.list.length c1,.slice A2 y.pairs.length c2,.slice A3 y.scores.length c3] 43)))
   obtain⟨gb,hgb⟩:∃gb,gb=wq.heap.size:=⟨_,rfl⟩
   rw[←hgb] at VB
   have hgz:w.heap.size < gb:=by have:=CN.out.q.lt;omega
   clear hy fq e0 d0 d1 d2 d3 d4
   go_upto_region 10 with fail
   rw[←hgb]
   clear hgb
   obtain⟨m0,m1,m2,m3,m4⟩:=five VB.out
   go_region_held3 (fun wx=>wx.cell? ⟨gb,0,none⟩=some (.int .i64 y.kind)∧wx.cell? ⟨gb,1,none⟩=some (.string y.text)∧wx.cell? ⟨gb,2,none⟩=some (.slice A1 y.list.length c1)∧wx.cell? ⟨gb,3,none⟩=some (.slice A2 y.pairs.length c2)∧wx.cell? ⟨gb,4,none⟩=some (.slice A3 y.scores.length c3)) (go_keep) ((first|(go_at_call 171;refine(z0j _ _).mono ?_;rintro e5 w5 ⟨rfl,f5⟩;have C5:=hid (C4.out.go (z01 f5));have VB5:=hid (VB.out.fr (z01 f5) (by simp));have HY5:=hid (HY.out.go (z01 f5));clear f5 m0 m1 m2 m3 m4;obtain⟨m0,m1,m2,m3,m4⟩:=five VB5.out)|(go_at_call 170;refine(CH.out _ _ _ C5.out.d HY5.out (z1f.bare _ _ _ _ _)).mono ?_;rintro e6 w6 ⟨u,rfl,hu,f6,hd⟩;obtain⟨R,rc,rfl⟩:=hu.form;have VB6:=hid (VB5.out.fr f6 (fun hm=>by have:=(H.out.low _ hm).2;omega));have Q6:=hid (C5.out.q.fr f6 (fun hm=>by have:=(H.out.low _ hm).2;omega));have HU:=hid hu;have HD:=hid hd;have F6:=hid (C5.out.f.up.trans f6);clear f6 hu hd m0 m1 m2 m3 m4;obtain⟨m0,m1,m2,m3,m4⟩:=five VB6.out;obtain⟨y0,y1,y2,y3⟩:=four Q6.out;obtain⟨z0,z1,z2,z3⟩:=z0w Q6.out;have hgz1:¬gb=w.heap.size:=(by omega);have hgz2:¬w.heap.size=gb:=(by omega))))
   obtain⟨sp,pr⟩:=pp
   go_wp2
   refine bodyPost_ret (v:=.agg #[.int .i64 pr.kind,.string pr.text,.int .i64 pr.n,.slice R pr.list.length rc]) (by simp[results,Tryz.results132,go_sem,y0,y1,y2,y3]) rfl ?_
   exact ChD.fin4 HU.out F6.out Q6.out hbz HD.out
theorem zcl:∀(l:List ByteArray) (k:Nat),2 * k+1 < l.length→(z0z l)[k]? = some ((z3v (wd l (2 * k)).data.toList).getD 0,wd l (2 * k+1))
 | [],_,h=>by simp at h
 | [a],k,h=>by simp at h
 | a :: b :: l,0,_=>rfl
 | a :: b :: l,k+1,h=>by
  have:=zcl l k (by simp at h;omega)
  show(z0z l)[k]? = _
  rw[this]
  rfl
theorem zb4:∀(l:List ByteArray) (m:Nat),l.length=2 * m→(z0z l).length=m
 | [],m,h=>by
  have:m=0:=by simp at h;omega
  subst this;rfl
 | [a],m,h=>by simp at h;omega
 | a :: b :: l,0,h=>by simp at h
 | a :: b :: l,m+1,h=>by
  show(z0z l).length+1=_
  rw[zb4 l m (by simp at h;omega)]
theorem zfs{l:List ByteArray}{k:Nat}(h:2 * k+2 < l.length):(z0z (l.drop 1))[k]? = some ((z3v (wd l (2 * k+1)).data.toList).getD 0,wd l (2 * k+2)):=by
 have:=zcl (l.drop 1) k (by rw[List.length_drop];omega)
 rw[this]
 have e:∀j,wd (l.drop 1) j=wd l (j+1):=fun j=>by
  unfold wd
  rw[List.getD_eq_getElem?_getD,List.getD_eq_getElem?_getD,List.getElem?_drop,Nat.add_comm]
 rw[e,e]
theorem zvu(g B0:Nat)(sv:Value)(now:Int)(lv:Value)(l:List ByteArray)(s:List Ent)(c0:ByteArray)(w:World)(ok:z1m s)(hn:3≤l.length)(h12:l.length≤11)(hz:∀t∈l,t.size≤60)(mm:Nat)(hmm:l.length=2 * mm+1)(hnum:∀k,2 * k+2 < l.length→(z3v (wd l (2 * k+1)).data.toList).isSome=true)(hv:Vars w)(h:Dr g B0 sv now lv l s w) :
  Calls prog 133 #[.pointer (some ⟨g,0,none⟩),.string ⟨#[122,97,100,100]⟩] w (ChD g B0 B0 sv now lv l (doC .zadd s now (c0 :: l)) w):=by
 have hr:=ok.rise
 have hs16:=ok.le
 have DI:=zDI hr hs16 h
 have LS:=hid (z0a (z07 ok) now (wd l 0)).item
 have hzw:∀i,(wd l i).size≤60:=z0s hz
 obtain⟨i0,hi9,hz90,hz91,hz92⟩:=info_parts z66
 have EP:doC .zadd s now (c0 :: l)=fin s now (wd l 0) (z9i (z00 s now (wd l 0)).item (z0z (l.drop 1))) (z00 s now (wd l 0)).til true false (zbk (z00 s now (wd l 0)).item (z0z (l.drop 1))) (z0h (zdy (z00 s now (wd l 0)).item (z0z (l.drop 1)))):=rfl
 have SY:=hid (show(z9i (z00 s now (wd l 0)).item (z0z (l.drop 1))).Small from zjl _ _)
 have PLN:=zb4 (l.drop 1) mm (by rw[List.length_drop];omega)
 have OP:=hid (fun W u A c (k:z0q W W.heap.size u (z00 s now (wd l 0)).item) (q:Sl W W.heap.size 2 (.slice A (z0z (l.drop 1)).length c) (z0z (l.drop 1)).length (z08 (z0z (l.drop 1))))=>zg1 (z00 s now (wd l 0)).item u (z0z (l.drop 1)) A c W W.heap.size LS.out (Nat.le_refl _) k (by rw[PLN];omega) q)
 have CH:=zCH g B0 sv now lv l s w (z9i (z00 s now (wd l 0)).item (z0z (l.drop 1))) (z0h (zdy (z00 s now (wd l 0)).item (z0z (l.drop 1)))) (zbk (z00 s now (wd l 0)).item (z0z (l.drop 1))) ok (by omega) SY
 have PAT:=hid (fun k (hk:2 * k+2 < l.length)=>zfs hk)
 have PLH:=hid PLN
 have HMM:=hid hmm
 rw[EP]
 clear EP SY PLN hmm
 have IK:=hid (fun(k:Nat) W (hk:2 * k+2 < l.length) (hW:Fr [] w W)=>(show Calls prog 174 #[.pointer (some ⟨g,0,none⟩),.int .i64 ((2 * k+1:Nat):Int)] W (fun e w'=>e=.returned (.int .i64 ((z3v (wd l (2 * k+1)).data.toList).getD 0))∧Fr [] W w') from by
  obtain⟨v,hv0⟩:=Option.isSome_iff_exists.1 (hnum k hk)
  rw[hv0]
  exact z38 g B0 sv now lv l s (2 * k+1) v W (by omega) (fun t ht=>by have:=hz t ht;omega) hv0 (hv.fr hW) (h.go hW)))
 clear hnum hv
 have H:=hid h
 have hlt:=h.lt
 have hbz:=h.bz
 obtain⟨SA,sc,rfl⟩:=h.sform
 obtain⟨LA,lc,rfl⟩:=h.lform
 obtain⟨b,off,rfl,hb,hc,hm,hat⟩:=h.word (by omega)
 have HAT:=hid hat
 have DG:=hid (fun W (hW:Fr [] w W)=>(h.go hW).three)
 unfold maxLen at hm
 clear h hr hat hzw ok
 generalize fin s now (wd l 0) (z9i (z00 s now (wd l 0)).item (z0z (l.drop 1))) (z00 s now (wd l 0)).til true false (zbk (z00 s now (wd l 0)).item (z0z (l.drop 1))) (z0h (zdy (z00 s now (wd l 0)).item (z0z (l.drop 1))))=pp at *
 generalize z9i (z00 s now (wd l 0)).item (z0z (l.drop 1))=y at *
 generalize zdy (z00 s now (wd l 0)).item (z0z (l.drop 1))=nn at *
 generalize zbk (z00 s now (wd l 0)).item (z0z (l.drop 1))=cc at *
 generalize (z00 s now (wd l 0)).item=x at *
 generalize z0z (l.drop 1)=pl at *
 have F0:=zF w
 have Q0:=zQ w
 obtain⟨d0,d1,d2⟩:=DG.out _ F0.out
 have dw:=F0.out.cell (HAT.out 0 (by omega)) (by simp)
 rw[Nat.add_zero] at dw
 go_enter Tryz.func133,Tryz.ntmps133
 go_wp2_with fail
 refine(DI.out _ F0.out).mono ?_
 rintro e1 w1 ⟨xv,rfl,hi,f1⟩
 have F1:=hid (F0.out.trans f1)
 have Q1:=hid (Q0.out.fr f1 (by simp))
 have HI:=hid hi
 obtain⟨X1,x1,X2,x2,X3,x3,rfl⟩:=hi.form
 have hz1:=f1.size
 simp at hz1
 clear f1 hi d0 d1 d2 dw
 have C1:=zC1 Q1 HI H F1
 obtain⟨w3,hw3⟩:∃w3,w3=w1.alloc (.cells #[.int .i64 x.kind,.string x.text,.slice X1 x.list.length x1,.slice X2 x.pairs.length x2,.slice X3 x.scores.length x3] 43):=⟨_,rfl⟩
 have C3:=hid (show Cw g B0 _ now _ l s w1.heap.size [.int .i64 x.kind,.string x.text,.slice X1 x.list.length x1,.slice X2 x.pairs.length x2,.slice X3 x.scores.length x3] x w w3 from hw3 ▸ C1.out)
 have FW3:=hid (show Fr [] w3 (w1.alloc (.cells #[.int .i64 x.kind,.string x.text,.slice X1 x.list.length x1,.slice X2 x.pairs.length x2,.slice X3 x.scores.length x3] 43)) from hw3 ▸ Fr.refl [] w3)
 have O3:=hid (show(w1.alloc (.cells #[.int .i64 x.kind,.string x.text,.slice X1 x.list.length x1,.slice X2 x.pairs.length x2,.slice X3 x.scores.length x3] 43)).ownsRow w3.heap.size 91 2 (.slice none 0 0) 0 (z08 (pl.take 0)) from World.ownsRow_nil _ _ _ _)
 have hz3:=C3.out.f.size
 have hbl:b < w.heap.size:=by omega
 clear hw3 C1
 go_wp2
 go_loopg [6,7] mm (fun yy sl i wr=>∃(k:Nat) (Ao:Option Addr) (co:Nat),yy=mm - k∧k≤mm∧sl=.slice Ao k co∧i=.int .i64 ((2 * k+1:Nat):Int)∧wr.ownsRow w3.heap.size 91 2 (.slice Ao k co) k (z08 (pl.take k))∧Fr [] w3 wr)
 case atStart=>exact⟨0,none,0,rfl,Nat.zero_le _,rfl,rfl,O3.out,FW3.out⟩
 case round=>
  obtain⟨k,Ao,co,rfl,hk,rfl,rfl,hown,hf⟩:=hrel
  have HO:=hid hown
  have F:=hid hf
  have CR:=hid (C3.out.go hf)
  have hzr:=hf.size
  have hLL:=HMM.out
  clear hown hf
  by_cases hlt:k < mm
  ·have hk2:2 * k+2 < l.length:=by omega
   have PK:=hid (PAT.out k hk2)
   have HAT1:=hid (HAT.out (2 * k+1) (by omega))
   have HAT2:=hid (HAT.out (2 * k+2) (by omega))
   have e1:=CR.out.f.cell HAT1.out (by simp)
   have e2:=CR.out.f.cell HAT2.out (by simp)
   have e0:=CR.out.d.three.2.2
   have TK:Hid (z08 (pl.take (k+1))=z08 (pl.take k)++[.int .i64 ((z3v (wd l (2 * k+1)).data.toList).getD 0),.string (wd l (2 * k+2))]):=hid (by
    rw[List.take_add_one,PK.out]
    simp[z08])
   have IQ:=hid (fun W hW=>IK.out k W hk2 hW)
   generalize hq1:wd l (2 * k+1)=t1 at *
   generalize hq2:wd l (2 * k+2)=t2 at *
   clear hq1 hq2 PK
   generalize (z3v t1.data.toList).getD 0=n1 at *
   obtain⟨m,hm2⟩:∃m,m=2 * k+1:=⟨_,rfl⟩
   have hm3:2 * k+2=m+1:=by omega
   rw[hm3] at e2 HAT2
   rw[←hm2] at e1 HAT1 IQ
   rw[←hm2]
   have HM2:=hid hm2
   have jx0:(0:Int)≤(m:Int):=by omega
   have jx1:(m:Int) < (l.length:Int):=by omega
   have jx2:(0:Int)≤(m:Int)+1:=by omega
   have jx3:(m:Int)+1 < (l.length:Int):=by omega
   have jx4:m+1 < l.length:=by omega
   have jx5:m < l.length:=by omega
   have jw:IntKind.i64.wrap ((m:Int)+1)=(m:Int)+1:=IntWalk.i64_in _ (by omega)
   have jt:((m:Int)+1).toNat=m+1:=by omega
   have c1':k+1≤9223372036854775807:=by omega
   have c2':(k+1) * 24≤140737488355328:=by omega
   have c3':w3.heap.size≤wr.heap.size:=hzr
   clear hm2 hm3 hk2 hLL
   go_upto_region 8 with fail
   go_region_held3 (fun wx=>wx.cell? ⟨g,2,none⟩=some (.slice (some ⟨b,off,none⟩) l.length lc)∧wx.cell? ⟨b,off+m,none⟩=some (.string t1)∧wx.cell? ⟨b,off+(m+1),none⟩=some (.string t2)) (go_keep) ((first|(go_at_call 174;refine(IQ.out _ CR.out.drew.f).mono ?_;rintro eI wI ⟨rfl,fI⟩;have FI:=hid (F.out.drew.trans fI);have HOI:=hid (z0n (show wr.drew.ownsRow _ _ _ _ _ _ from HO.out) fI (by simp));have CI:=hid (C3.out.go FI.out);have hzI:=FI.out.size;have FQ:=hid (HOI.out.alloc (.cells #[.int .i64 n1,.string t2] 91));have FB:=hid (FI.out.alloc (.cells #[.int .i64 n1,.string t2] 91));have hO1:=hid (z0t (World.ownsRow_lit (base:=wI.heap.size) (e:=91) (size:=2) wI #[.int .i64 n1,.string t2] 1 (Nat.le_refl _) (by decide) rfl));clear fI e0 e1 e2;have e0:=CI.out.d.three.2.2;have e1:=CI.out.f.cell (HAT1.out) (by simp);have e2:=CI.out.f.cell (HAT2.out) (by simp))|(refine z8d _ rfl _ _ 41 rfl w3.heap.size 91 i0 _ 2 24 Tryz.underlying41 hi9 hz90 hz91 hz92 rfl (by decide) _ _ _ rfl FQ.out _ _ 1 _ rfl hO1.out (zju (h:=rfl)) ?c1 ?c2 ?c3 ?_;(case c1=>(unfold maxLen;omega));(case c2=>omega);(case c3=>first|omega|(simp;omega));intro v5 w5 hown hgrow hat5;have F5:=hid (FB.out.grown hgrow (fun j hj=>.inr ((HO.out.lt j hj).1)));have HW5:=hid hown;obtain⟨A5,c5,rfl,-⟩:=z06 hown;have C5:=hid (C3.out.go F5.out);clear hown hgrow hat5 e0 e1 e2;have e0:=C5.out.d.three.2.2;have e1:=C5.out.f.cell (HAT1.out) (by simp);have e2:=C5.out.f.cell (HAT2.out) (by simp))))
   have HK5:=hid (show w5.ownsRow w3.heap.size 91 2 (.slice A5 (k+1) c5) (k+1) (z08 (pl.take (k+1))) from by rw[TK.out];exact HW5.out)
   clear e0 e1 e2
   go_wp2
   go_roundg (mm - (k+1))
   case measure=>omega
   case rel=>exact⟨k+1,A5,c5,rfl,by omega,rfl,congrArg (Value.int .i64) (by have:=HM2.out;omega),HK5.out,F5.out⟩
  ·obtain rfl:k=mm:=by omega
   have jz:¬(((2 * k+1:Nat):Int) < (l.length:Int)):=by omega
   have jz2:¬2 * k+1 < l.length:=by omega
   have jz3:¬(2 * (k:Int)+1 < (l.length:Int)):=by omega
   have jz4:decide (2 * (k:Int)+1 < (l.length:Int))=false:=decide_eq_false jz3
   have HS9:=hid (show Sl wr wr.heap.size 2 (.slice Ao k co) k (z08 pl) from by
    have:=z0t HO.out
    rw[List.take_of_length_le (by rw[PLH.out];exact Nat.le_refl _)] at this
    exact this)
   have OP2:=hid (fun W u A c (q1:z0q W W.heap.size u x) (q:Sl W W.heap.size 2 (.slice A k c) k (z08 pl))=>(show Calls prog 197 #[u,.slice A k c] W (z4k nn cc y W) from by
    have h:=OP.out W u A c q1
    rw[PLH.out] at h
    exact h q))
   have e0:=CR.out.d.three.2.2
   obtain⟨d0,d1,d2,d3,d4⟩:=five CR.out.b
   clear hLL hlt
   go_wp2_with fail
   refine(OP2.out _ _ _ _ CR.out.i.item HS9.out).mono ?_
   rintro e9 wq ⟨yv,rfl,hy,fq⟩
   have CN:=hid (CR.out.go fq)
   have HY0:=hid (hy.less (show B0≤_ from CR.out.d.bz))
   obtain⟨A1,c1,A2,c2,A3,c3,rfl⟩:=hy.form
   have hzq:=CN.out.f.size
   have VB:=hid (Whole.new wq 43 [.int .i64 y.kind,.string y.text,.slice A1 y.list.length c1,.slice A2 y.pairs.length c2,.slice A3 y.scores.length c3])
   have C4:=hid (CN.out.go ((Fr.refl [] wq).alloc (.cells #[.int .i64 y.kind,.string y.text,.slice A1 y.list.length c1,.slice A2 y.pairs.length c2,.slice A3 y.scores.length c3] 43)))
   have HY:=hid (HY0.out.go ((Fr.refl [] wq).alloc (.cells #[.int .i64 y.kind,.string y.text,.slice A1 y.list.length c1,.slice A2 y.pairs.length c2,.slice A3 y.scores.length c3] 43)))
   obtain⟨gb,hgb⟩:∃gb,gb=wq.heap.size:=⟨_,rfl⟩
   rw[←hgb] at VB
   have hgz:w.heap.size < gb:=by have:=CN.out.q.lt;omega
   clear hy fq e0 d0 d1 d2 d3 d4
   go_upto_region 10 with fail
   rw[←hgb]
   clear hgb
   obtain⟨m0,m1,m2,m3,m4⟩:=five VB.out
   go_region_held3 (fun wx=>wx.cell? ⟨gb,0,none⟩=some (.int .i64 y.kind)∧wx.cell? ⟨gb,1,none⟩=some (.string y.text)∧wx.cell? ⟨gb,2,none⟩=some (.slice A1 y.list.length c1)∧wx.cell? ⟨gb,3,none⟩=some (.slice A2 y.pairs.length c2)∧wx.cell? ⟨gb,4,none⟩=some (.slice A3 y.scores.length c3)) (go_keep) ((first|(go_at_call 171;refine(z0j _ _).mono ?_;rintro e5 w5 ⟨rfl,f5⟩;have C5:=hid (C4.out.go (z01 f5));have VB5:=hid (VB.out.fr (z01 f5) (by simp));have HY5:=hid (HY.out.go (z01 f5));clear f5 m0 m1 m2 m3 m4;obtain⟨m0,m1,m2,m3,m4⟩:=five VB5.out)|(go_at_call 170;refine(CH.out _ _ _ C5.out.d HY5.out (z1f.bare _ _ _ _ _)).mono ?_;rintro e6 w6 ⟨u,rfl,hu,f6,hd⟩;obtain⟨R,rc,rfl⟩:=hu.form;have VB6:=hid (VB5.out.fr f6 (fun hm=>by have:=(H.out.low _ hm).2;omega));have Q6:=hid (C5.out.q.fr f6 (fun hm=>by have:=(H.out.low _ hm).2;omega));have HU:=hid hu;have HD:=hid hd;have F6:=hid (C5.out.f.up.trans f6);clear f6 hu hd m0 m1 m2 m3 m4;obtain⟨m0,m1,m2,m3,m4⟩:=five VB6.out;obtain⟨y0,y1,y2,y3⟩:=four Q6.out;obtain⟨z0,z1,z2,z3⟩:=z0w Q6.out;have hgz1:¬gb=w.heap.size:=(by omega);have hgz2:¬w.heap.size=gb:=(by omega))))
   obtain⟨sp,pr⟩:=pp
   go_wp2
   refine bodyPost_ret (v:=.agg #[.int .i64 pr.kind,.string pr.text,.int .i64 pr.n,.slice R pr.list.length rc]) (by simp[results,Tryz.results133,go_sem,y0,y1,y2,y3]) rfl ?_
   exact ChD.fin4 HU.out F6.out Q6.out hbz HD.out
end Go.Proofs.YtamgdmiopinidaaGreatDoor
