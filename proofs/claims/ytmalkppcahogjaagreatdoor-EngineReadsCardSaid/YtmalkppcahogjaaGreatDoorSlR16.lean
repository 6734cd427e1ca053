/- Contracts; no condition but each theorem's own. -/
import Derived.Test.YtmalkppcahogjaaGreatDoorSlR15
set_option linter.unusedVariables false
set_option linter.unusedSimpArgs false
set_option maxHeartbeats 8000000
set_option maxRecDepth 100000
namespace Go.Proofs.YtmalkppcahogjaaGreatDoor
open Lib (hid)
open Go.Proofs.Tryz (prog)
open Go.RowKit
theorem zf9:∀(l:List ByteArray) (k:Nat),2 * k+1 < l.length→(z1m l)[k]? = some (wd l (2 * k),wd l (2 * k+1))
 | [],_,h=>by simp at h
 | [a],k,h=>by simp at h
 | a :: b :: l,0,_=>rfl
 | a :: b :: l,k+1,h=>by
  have:=zf9 l k (by simp at h;omega);show(z1m l)[k]? = _;rw[this];rfl
theorem zdq:∀(l:List ByteArray) (m:Nat),l.length=2 * m→(z1m l).length=m
 | [],m,h=>by
  have:m=0:=by simp at h;omega
  subst this;rfl
 | [a],m,h=>by simp at h;omega
 | a :: b :: l,0,h=>by simp at h
 | a :: b :: l,m+1,h=>by
  show(z1m l).length+1=_;rw[zdq l m (by simp at h;omega)]
theorem zs0{a b:Value}{h:([a,b].all Value.oneCell')=true}:∀u∈[a,b],u.oneCell'=true:=fun u hu=>List.all_eq_true.1 h u hu
theorem ziw{l:List ByteArray}{k:Nat}(h:2 * k+2 < l.length):(z1m (l.drop 1))[k]? = some (wd l (2 * k+1),wd l (2 * k+2)):=by
 have:=zf9 (l.drop 1) k (by rw[List.length_drop];omega);rw[this]
 have e:∀j,wd (l.drop 1) j=wd l (j+1):=fun j=>by
  unfold wd;rw[List.getD_eq_getElem?_getD,List.getD_eq_getElem?_getD,List.getElem?_drop,Nat.add_comm]
 rw[e,e]
section
variable (g B0:Nat) (sv:Value) (now:Int) (lv:Value) (l:List ByteArray) (s:List Ent) (c0:ByteArray) (w:World)
theorem zxp(ok:z1y s)(hn:3≤l.length)(h12:l.length≤11)(hz:∀t∈l,t.size≤60)(mm:Nat)(hmm:l.length=2 * mm+1)(h:Dr g B0 sv now lv l s w):
  Calls prog 186 #[.pointer (some ⟨g,0,none⟩),.string ⟨#[104,115,101,116]⟩] w (ChD g B0 B0 sv now lv l (doC .hset s now (c0 :: l)) w):=by
 have hr:=ok.rise;have hs16:=ok.le;have DI:=zDI hr hs16 h;have LS:=hid (z0b (z09 ok) now (wd l 0)).item;obtain⟨i0,hi9,hz90,hz91,hz92⟩:=info_parts z9h;have EP:doC .hset s now (c0 :: l)=fin s now (wd l 0) (zlk (z00 s now (wd l 0)).item (z1m (l.drop 1))) (z00 s now (wd l 0)).til true false (z1p (z00 s now (wd l 0)).item (z1m (l.drop 1))) (z0o (zt7 (z00 s now (wd l 0)).item (z1m (l.drop 1)))):=rfl;have SY:=hid (show(zlk (z00 s now (wd l 0)).item (z1m (l.drop 1))).Small from znv _ _);have PLN:=zdq (l.drop 1) mm (by rw[List.length_drop];omega);have OP:=hid (fun W u A c (k:z0r W W.heap.size u (z00 s now (wd l 0)).item) (q:Sl W W.heap.size 2 (.slice A (z1m (l.drop 1)).length c) (z1m (l.drop 1)).length (z0f (z1m (l.drop 1))))=>zjn (z00 s now (wd l 0)).item u (z1m (l.drop 1)) A c W W.heap.size LS.out (Nat.le_refl _) k (by rw[PLN];omega) q);have CH:=zCH g B0 sv now lv l s w (zlk (z00 s now (wd l 0)).item (z1m (l.drop 1))) (z0o (zt7 (z00 s now (wd l 0)).item (z1m (l.drop 1)))) (z1p (z00 s now (wd l 0)).item (z1m (l.drop 1))) ok (by omega) SY;have PAT:=hid (fun k (hk:2 * k+2 < l.length)=>ziw hk);have PLH:=hid PLN;have HMM:=hid hmm;rw[EP];clear EP SY PLN hmm;have H:=hid h;have hlt:=h.lt;have hbz:=h.bz;obtain⟨SA,sc,rfl⟩:=h.sform;obtain⟨LA,lc,rfl⟩:=h.lform;obtain⟨b,off,rfl,hb,hc,hm,hat⟩:=h.word (by omega);have HAT:=hid hat;have DG:=hid (fun W (hW:Fr [] w W)=>(h.go hW).three);unfold maxLen at hm;clear h hr hat ok;generalize fin s now (wd l 0) (zlk (z00 s now (wd l 0)).item (z1m (l.drop 1))) (z00 s now (wd l 0)).til true false (z1p (z00 s now (wd l 0)).item (z1m (l.drop 1))) (z0o (zt7 (z00 s now (wd l 0)).item (z1m (l.drop 1))))=pp at *;generalize zlk (z00 s now (wd l 0)).item (z1m (l.drop 1))=y at *;generalize zt7 (z00 s now (wd l 0)).item (z1m (l.drop 1))=nn at *;generalize z1p (z00 s now (wd l 0)).item (z1m (l.drop 1))=cc at *;generalize (z00 s now (wd l 0)).item=x at *;generalize z1m (l.drop 1)=pl at *;have F0:=zF w;have Q0:=zQ w;obtain⟨d0,d1,d2⟩:=DG.out _ F0.out;have dw:=F0.out.cell (HAT.out 0 (by omega)) (by simp);rw[Nat.add_zero] at dw;go_enter Tryz.func186,Tryz.ntmps186;go_wp2_with fail;refine(DI.out _ F0.out).mono ?_;rintro e1 w1 ⟨xv,rfl,hi,f1⟩;have F1:=hid (F0.out.trans f1);have Q1:=hid (Q0.out.f0 f1);have HI:=hid hi;obtain⟨X1,x1,X2,x2,X3,x3,rfl⟩:=hi.form;have hz1:=f1.size;simp at hz1;clear f1 hi d0 d1 d2 dw;have C1:=zC1 Q1 HI H F1;obtain⟨w3,hw3⟩:∃w3,w3=w1.alloc (.cells (yIa x X1 x1 X2 x2 X3 x3) 65):=⟨_,rfl⟩;have C3:=hid (show Cw g B0 _ now _ l s w1.heap.size (yIl x X1 x1 X2 x2 X3 x3) x w w3 from hw3 ▸ C1.out);have FW3:=hid (show Fr [] w3 (w1.alloc (.cells (yIa x X1 x1 X2 x2 X3 x3) 65)) from hw3 ▸ Fr.refl [] w3);have O3:=hid (show(w1.alloc (.cells (yIa x X1 x1 X2 x2 X3 x3) 65)).ownsRow w3.heap.size 108 2 (.slice none 0 0) 0 (z0f (pl.take 0)) from World.ownsRow_nil _ _ _ _);have hz3:=C3.out.f.size;have hbl:b < w.heap.size:=by omega
 clear hw3 C1;go_wp2;go_loopg [6,7] mm (fun yy sl i wr=>∃(k:Nat) (Ao:Option Addr) (co:Nat),yy=mm - k∧k≤mm∧sl=.slice Ao k co∧i=.int .i64 ((2 * k+1:Nat):Int)∧wr.ownsRow w3.heap.size 108 2 (.slice Ao k co) k (z0f (pl.take k))∧Fr [] w3 wr)
 case atStart=>exact⟨0,none,0,rfl,Nat.zero_le _,rfl,rfl,O3.out,FW3.out⟩
 case round=>
  obtain⟨k,Ao,co,rfl,hk,rfl,rfl,hown,hf⟩:=hrel;have HO:=hid hown;have F:=hid hf;have CR:=hid (C3.out.go hf);have hzr:=hf.size;have hLL:=HMM.out;clear hown hf;by_cases hlt:k < mm
  ·have hk2:2 * k+2 < l.length:=by omega
   have PK:=hid (PAT.out k hk2);have HAT1:=hid (HAT.out (2 * k+1) (by omega));have HAT2:=hid (HAT.out (2 * k+2) (by omega));have e1:=CR.out.f.cell HAT1.out (by simp);have e2:=CR.out.f.cell HAT2.out (by simp);have e0:=CR.out.d.three.2.2
   have TK:Hid (z0f (pl.take (k+1))=z0f (pl.take k)++[.string (wd l (2 * k+1)),.string (wd l (2 * k+2))]):=hid (by
    rw[List.take_add_one,PK.out];simp[z0f])
   generalize hq1:wd l (2 * k+1)=t1 at *;generalize hq2:wd l (2 * k+2)=t2 at *;clear hq1 hq2 PK;obtain⟨m,hm2⟩:∃m,m=2 * k+1:=⟨_,rfl⟩;have hm3:2 * k+2=m+1:=by omega
   rw[hm3] at e2 HAT2;rw[←hm2] at e1 HAT1;rw[←hm2];have HM2:=hid hm2;have jx0:(0:Int)≤(m:Int):=by omega
   have jx1:(m:Int) < (l.length:Int):=by omega
   have jx2:(0:Int)≤(m:Int)+1:=by omega
   have jx3:(m:Int)+1 < (l.length:Int):=by omega
   have jx4:m+1 < l.length:=by omega
   have jx5:m < l.length:=by omega
   have jw:IntKind.i64.wrap ((m:Int)+1)=(m:Int)+1:=IntWalk.i64_in _ (by omega);have jt:((m:Int)+1).toNat=m+1:=by omega
   have c1':k+1≤9223372036854775807:=by omega
   have c2':(k+1) * 32≤140737488355328:=by omega
   have c3':w3.heap.size≤wr.heap.size:=hzr;clear hm2 hm3 hk2 hLL;have FQ:=hid (show((wr.alloc (.cells #[.string t1,.string t2] 108)).drew).ownsRow w3.heap.size 108 2 (.slice Ao k co) k (z0f (pl.take k)) from HO.out.alloc _);have hO1:=hid (show Sl ((wr.alloc (.cells #[.string t1,.string t2] 108)).drew) ((wr.alloc (.cells #[.string t1,.string t2] 108)).drew).heap.size 2 (.slice (some ⟨wr.heap.size,0,none⟩) 1 1) 1 [.string t1,.string t2] from z0s (World.ownsRow_lit (base:=wr.heap.size) (e:=108) (size:=2) wr #[.string t1,.string t2] 1 (Nat.le_refl _) (by decide) rfl));have FB:=hid (F.out.alloc (.cells #[.string t1,.string t2] 108)).drew;go_upto_region 8 with fail;go_region_held3 (fun wx=>wx.cell? ⟨g,2,none⟩=some (.slice (some ⟨b,off,none⟩) l.length lc)∧wx.cell? ⟨b,off+m,none⟩=some (.string t1)∧wx.cell? ⟨b,off+(m+1),none⟩=some (.string t2)) (go_keep) ((first|(refine z8k _ rfl _ _ 62 rfl w3.heap.size 108 i0 _ 2 32 Tryz.underlying62 hi9 hz90 hz91 hz92 rfl (by decide) _ _ _ rfl FQ.out _ _ 1 _ rfl hO1.out (zs0 (h:=rfl)) ?c1 ?c2 ?c3 ?_;(case c1=>(unfold maxLen;omega));(case c2=>omega);(case c3=>first|omega|(simp;omega));intro v5 w5 hown hgrow hat5;have F5:=hid (FB.out.grown hgrow (fun j hj=>.inr ((HO.out.lt j hj).1)));have HW5:=hid hown;obtain⟨A5,c5,rfl,-⟩:=z05 hown;have C5:=hid (C3.out.go F5.out);clear hown hgrow hat5 e0 e1 e2;have e0:=C5.out.d.three.2.2;have e1:=C5.out.f.cell (HAT1.out) (by simp);have e2:=C5.out.f.cell (HAT2.out) (by simp))))
   have HK5:=hid (show w5.ownsRow w3.heap.size 108 2 (.slice A5 (k+1) c5) (k+1) (z0f (pl.take (k+1))) from by rw[TK.out];exact HW5.out);clear e0 e1 e2;go_wp2;go_roundg (mm - (k+1))
   case measure=>omega
   case rel=>exact⟨k+1,A5,c5,rfl,by omega,rfl,congrArg (Value.int .i64) (by have:=HM2.out;omega),HK5.out,F5.out⟩
  ·obtain rfl:k=mm:=by omega
   have jz:¬(((2 * k+1:Nat):Int) < (l.length:Int)):=by omega
   have jz2:¬2 * k+1 < l.length:=by omega
   have jz3:¬(2 * (k:Int)+1 < (l.length:Int)):=by omega
   have jz4:decide (2 * (k:Int)+1 < (l.length:Int))=false:=decide_eq_false jz3
   have HS9:=hid (show Sl wr wr.heap.size 2 (.slice Ao k co) k (z0f pl) from by
    have:=z0s HO.out;rw[List.take_of_length_le (by rw[PLH.out];exact Nat.le_refl _)] at this;exact this)
   have OP2:=hid (fun W u A c (q1:z0r W W.heap.size u x) (q:Sl W W.heap.size 2 (.slice A k c) k (z0f pl))=>(show Calls prog 260 #[u,.slice A k c] W (z4d nn cc y W) from by
    have h:=OP.out W u A c q1;rw[PLH.out] at h;exact h q))
   have e0:=CR.out.d.three.2.2;obtain⟨d0,d1,d2,d3,d4⟩:=five CR.out.b;clear hLL hlt;go_wp2_with fail;refine(OP2.out _ _ _ _ CR.out.i.item HS9.out).mono ?_;rintro e9 wq ⟨yv,rfl,hy,fq⟩;have CN:=hid (CR.out.go fq);have HY0:=hid (hy.less (show B0≤_ from CR.out.d.bz));obtain⟨A1,c1,A2,c2,A3,c3,rfl⟩:=hy.form;have hzq:=CN.out.f.size;have VB:=hid (Whole.new wq 65 (yIl y A1 c1 A2 c2 A3 c3));have C4:=hid (CN.out.go ((Fr.refl [] wq).alloc (.cells (yIa y A1 c1 A2 c2 A3 c3) 65)));have HY:=hid (HY0.out.go ((Fr.refl [] wq).alloc (.cells (yIa y A1 c1 A2 c2 A3 c3) 65)));obtain⟨gb,hgb⟩:∃gb,gb=wq.heap.size:=⟨_,rfl⟩;rw[←hgb] at VB;have hgz:w.heap.size < gb:=by have:=CN.out.q.lt;omega
   clear hy fq e0 d0 d1 d2 d3 d4;go_upto_region 10 with fail;rw[←hgb];clear hgb;obtain⟨m0,m1,m2,m3,m4⟩:=five VB.out;go_region_held3 (fun wx=>yIc wx gb y A1 c1 A2 c2 A3 c3) ((simp only[yIc];go_keep)) ((first|(go_at_call 237;refine(z0m _ _).mono ?_;rintro e5 w5 ⟨rfl,f5⟩;have C5:=hid (C4.out.go (z01 f5));have VB5:=hid (VB.out.f0 (z01 f5));have HY5:=hid (HY.out.go (z01 f5));clear f5 m0 m1 m2 m3 m4;obtain⟨m0,m1,m2,m3,m4⟩:=five VB5.out)|(go_at_call 236;refine(CH.out _ _ _ C5.out.d HY5.out (z19.bare _ _ _ _ _)).mono ?_;rintro e6 w6 ⟨u,rfl,hu,f6,hd⟩;obtain⟨R,rc,rfl⟩:=hu.form;have VB6:=hid (VB5.out.fr f6 (fun hm=>by have:=(H.out.low _ hm).2;omega));have Q6:=hid (C5.out.q.fr f6 (fun hm=>by have:=(H.out.low _ hm).2;omega));have HU:=hid hu;have HD:=hid hd;have F6:=hid (C5.out.f.up.trans f6);clear f6 hu hd m0 m1 m2 m3 m4;obtain⟨m0,m1,m2,m3,m4⟩:=five VB6.out;obtain⟨y0,y1,y2,y3⟩:=four Q6.out;obtain⟨z0,z1,z2,z3⟩:=z0h Q6.out;have hgz1:¬gb=w.heap.size:=(by omega);have hgz2:¬w.heap.size=gb:=(by omega))))
   obtain⟨sp,pr⟩:=pp;go_wp2;refine bodyPost_ret (v:=.agg (yRa pr R rc)) (by simp[results,Tryz.results186,go_sem,y0,y1,y2,y3]) rfl ?_;exact ChD.fin4 HU.out F6.out Q6.out hbz HD.out
theorem zd3:∀(l:List ByteArray) (k:Nat),2 * k+1 < l.length→(z11 l)[k]? = some ((z2z (wd l (2 * k)).data.toList).getD 0,wd l (2 * k+1))
 | [],_,h=>by simp at h
 | [a],k,h=>by simp at h
 | a :: b :: l,0,_=>rfl
 | a :: b :: l,k+1,h=>by
  have:=zd3 l k (by simp at h;omega);show(z11 l)[k]? = _;rw[this];rfl
theorem zbk:∀(l:List ByteArray) (m:Nat),l.length=2 * m→(z11 l).length=m
 | [],m,h=>by
  have:m=0:=by simp at h;omega
  subst this;rfl
 | [a],m,h=>by simp at h;omega
 | a :: b :: l,0,h=>by simp at h
 | a :: b :: l,m+1,h=>by
  show(z11 l).length+1=_;rw[zbk l m (by simp at h;omega)]
theorem zfj{l:List ByteArray}{k:Nat}(h:2 * k+2 < l.length):(z11 (l.drop 1))[k]? = some ((z2z (wd l (2 * k+1)).data.toList).getD 0,wd l (2 * k+2)):=by
 have:=zd3 (l.drop 1) k (by rw[List.length_drop];omega);rw[this]
 have e:∀j,wd (l.drop 1) j=wd l (j+1):=fun j=>by
  unfold wd;rw[List.getD_eq_getElem?_getD,List.getD_eq_getElem?_getD,List.getElem?_drop,Nat.add_comm]
 rw[e,e]
theorem zxk(ok:z1y s)(hn:3≤l.length)(h12:l.length≤11)(hz:∀t∈l,t.size≤60)(mm:Nat)(hmm:l.length=2 * mm+1)(hnum:∀k,2 * k+2 < l.length→(z2z (wd l (2 * k+1)).data.toList).isSome=true)(hv:Vars w)(h:Dr g B0 sv now lv l s w):
  Calls prog 187 #[.pointer (some ⟨g,0,none⟩),.string ⟨#[122,97,100,100]⟩] w (ChD g B0 B0 sv now lv l (doC .zadd s now (c0 :: l)) w):=by
 have hr:=ok.rise;have hs16:=ok.le;have DI:=zDI hr hs16 h;have LS:=hid (z0b (z09 ok) now (wd l 0)).item;obtain⟨i0,hi9,hz90,hz91,hz92⟩:=info_parts z6e;have EP:doC .zadd s now (c0 :: l)=fin s now (wd l 0) (z9q (z00 s now (wd l 0)).item (z11 (l.drop 1))) (z00 s now (wd l 0)).til true false (zbv (z00 s now (wd l 0)).item (z11 (l.drop 1))) (z0o (zep (z00 s now (wd l 0)).item (z11 (l.drop 1)))):=rfl;have SY:=hid (show(z9q (z00 s now (wd l 0)).item (z11 (l.drop 1))).Small from zjx _ _);have PLN:=zbk (l.drop 1) mm (by rw[List.length_drop];omega);have OP:=hid (fun W u A c (k:z0r W W.heap.size u (z00 s now (wd l 0)).item) (q:Sl W W.heap.size 2 (.slice A (z11 (l.drop 1)).length c) (z11 (l.drop 1)).length (z07 (z11 (l.drop 1))))=>zgx (z00 s now (wd l 0)).item u (z11 (l.drop 1)) A c W W.heap.size LS.out (Nat.le_refl _) k (by rw[PLN];omega) q);have CH:=zCH g B0 sv now lv l s w (z9q (z00 s now (wd l 0)).item (z11 (l.drop 1))) (z0o (zep (z00 s now (wd l 0)).item (z11 (l.drop 1)))) (zbv (z00 s now (wd l 0)).item (z11 (l.drop 1))) ok (by omega) SY;have PAT:=hid (fun k (hk:2 * k+2 < l.length)=>zfj hk);have PLH:=hid PLN;have HMM:=hid hmm;rw[EP];clear EP SY PLN hmm
 have IK:=hid (fun(k:Nat) W (hk:2 * k+2 < l.length) (hW:Fr [] w W)=>(show Calls prog 240 #[.pointer (some ⟨g,0,none⟩),.int .i64 ((2 * k+1:Nat):Int)] W (fun e w'=>e=.returned (.int .i64 ((z2z (wd l (2 * k+1)).data.toList).getD 0))∧Fr [] W w') from by
  obtain⟨v,hv0⟩:=Option.isSome_iff_exists.1 (hnum k hk);rw[hv0];exact zgt g B0 sv now lv l s (2 * k+1) v W (by omega) (fun t ht=>by have:=hz t ht;omega) hv0 (hv.fr hW) (h.go hW)))
 clear hnum hv;have H:=hid h;have hlt:=h.lt;have hbz:=h.bz;obtain⟨SA,sc,rfl⟩:=h.sform;obtain⟨LA,lc,rfl⟩:=h.lform;obtain⟨b,off,rfl,hb,hc,hm,hat⟩:=h.word (by omega);have HAT:=hid hat;have DG:=hid (fun W (hW:Fr [] w W)=>(h.go hW).three);unfold maxLen at hm;clear h hr hat ok;generalize fin s now (wd l 0) (z9q (z00 s now (wd l 0)).item (z11 (l.drop 1))) (z00 s now (wd l 0)).til true false (zbv (z00 s now (wd l 0)).item (z11 (l.drop 1))) (z0o (zep (z00 s now (wd l 0)).item (z11 (l.drop 1))))=pp at *;generalize z9q (z00 s now (wd l 0)).item (z11 (l.drop 1))=y at *;generalize zep (z00 s now (wd l 0)).item (z11 (l.drop 1))=nn at *;generalize zbv (z00 s now (wd l 0)).item (z11 (l.drop 1))=cc at *;generalize (z00 s now (wd l 0)).item=x at *;generalize z11 (l.drop 1)=pl at *;have F0:=zF w;have Q0:=zQ w;obtain⟨d0,d1,d2⟩:=DG.out _ F0.out;have dw:=F0.out.cell (HAT.out 0 (by omega)) (by simp);rw[Nat.add_zero] at dw;go_enter Tryz.func187,Tryz.ntmps187;go_wp2_with fail;refine(DI.out _ F0.out).mono ?_;rintro e1 w1 ⟨xv,rfl,hi,f1⟩;have F1:=hid (F0.out.trans f1);have Q1:=hid (Q0.out.f0 f1);have HI:=hid hi;obtain⟨X1,x1,X2,x2,X3,x3,rfl⟩:=hi.form;have hz1:=f1.size;simp at hz1;clear f1 hi d0 d1 d2 dw;have C1:=zC1 Q1 HI H F1;obtain⟨w3,hw3⟩:∃w3,w3=w1.alloc (.cells (yIa x X1 x1 X2 x2 X3 x3) 65):=⟨_,rfl⟩;have C3:=hid (show Cw g B0 _ now _ l s w1.heap.size (yIl x X1 x1 X2 x2 X3 x3) x w w3 from hw3 ▸ C1.out);have FW3:=hid (show Fr [] w3 (w1.alloc (.cells (yIa x X1 x1 X2 x2 X3 x3) 65)) from hw3 ▸ Fr.refl [] w3);have O3:=hid (show(w1.alloc (.cells (yIa x X1 x1 X2 x2 X3 x3) 65)).ownsRow w3.heap.size 113 2 (.slice none 0 0) 0 (z07 (pl.take 0)) from World.ownsRow_nil _ _ _ _);have hz3:=C3.out.f.size;have hbl:b < w.heap.size:=by omega
 clear hw3 C1;go_wp2;go_loopg [6,7] mm (fun yy sl i wr=>∃(k:Nat) (Ao:Option Addr) (co:Nat),yy=mm - k∧k≤mm∧sl=.slice Ao k co∧i=.int .i64 ((2 * k+1:Nat):Int)∧wr.ownsRow w3.heap.size 113 2 (.slice Ao k co) k (z07 (pl.take k))∧Fr [] w3 wr)
 case atStart=>exact⟨0,none,0,rfl,Nat.zero_le _,rfl,rfl,O3.out,FW3.out⟩
 case round=>
  obtain⟨k,Ao,co,rfl,hk,rfl,rfl,hown,hf⟩:=hrel;have HO:=hid hown;have F:=hid hf;have CR:=hid (C3.out.go hf);have hzr:=hf.size;have hLL:=HMM.out;clear hown hf;by_cases hlt:k < mm
  ·have hk2:2 * k+2 < l.length:=by omega
   have PK:=hid (PAT.out k hk2);have HAT1:=hid (HAT.out (2 * k+1) (by omega));have HAT2:=hid (HAT.out (2 * k+2) (by omega));have e1:=CR.out.f.cell HAT1.out (by simp);have e2:=CR.out.f.cell HAT2.out (by simp);have e0:=CR.out.d.three.2.2
   have TK:Hid (z07 (pl.take (k+1))=z07 (pl.take k)++[.int .i64 ((z2z (wd l (2 * k+1)).data.toList).getD 0),.string (wd l (2 * k+2))]):=hid (by
    rw[List.take_add_one,PK.out];simp[z07])
   have IQ:=hid (fun W hW=>IK.out k W hk2 hW);generalize hq1:wd l (2 * k+1)=t1 at *;generalize hq2:wd l (2 * k+2)=t2 at *;clear hq1 hq2 PK;generalize (z2z t1.data.toList).getD 0=n1 at *;obtain⟨m,hm2⟩:∃m,m=2 * k+1:=⟨_,rfl⟩;have hm3:2 * k+2=m+1:=by omega
   rw[hm3] at e2 HAT2;rw[←hm2] at e1 HAT1 IQ;rw[←hm2];have HM2:=hid hm2;have jx0:(0:Int)≤(m:Int):=by omega
   have jx1:(m:Int) < (l.length:Int):=by omega
   have jx2:(0:Int)≤(m:Int)+1:=by omega
   have jx3:(m:Int)+1 < (l.length:Int):=by omega
   have jx4:m+1 < l.length:=by omega
   have jx5:m < l.length:=by omega
   have jw:IntKind.i64.wrap ((m:Int)+1)=(m:Int)+1:=IntWalk.i64_in _ (by omega);have jt:((m:Int)+1).toNat=m+1:=by omega
   have c1':k+1≤9223372036854775807:=by omega
   have c2':(k+1) * 24≤140737488355328:=by omega
   have c3':w3.heap.size≤wr.heap.size:=hzr;clear hm2 hm3 hk2 hLL;go_upto_region 8 with fail;go_region_held3 (fun wx=>wx.cell? ⟨g,2,none⟩=some (.slice (some ⟨b,off,none⟩) l.length lc)∧wx.cell? ⟨b,off+m,none⟩=some (.string t1)∧wx.cell? ⟨b,off+(m+1),none⟩=some (.string t2)) (go_keep) ((first|(go_at_call 240;refine(IQ.out _ CR.out.drew.f).mono ?_;rintro eI wI ⟨rfl,fI⟩;have FI:=hid (F.out.drew.trans fI);have HOI:=hid (z0p (show wr.drew.ownsRow _ _ _ _ _ _ from HO.out) fI (by simp));have CI:=hid (C3.out.go FI.out);have hzI:=FI.out.size;have FQ:=hid (HOI.out.alloc (.cells #[.int .i64 n1,.string t2] 113));have FB:=hid (FI.out.alloc (.cells #[.int .i64 n1,.string t2] 113));have hO1:=hid (z0s (World.ownsRow_lit (base:=wI.heap.size) (e:=113) (size:=2) wI #[.int .i64 n1,.string t2] 1 (Nat.le_refl _) (by decide) rfl));clear fI e0 e1 e2;have e0:=CI.out.d.three.2.2;have e1:=CI.out.f.cell (HAT1.out) (by simp);have e2:=CI.out.f.cell (HAT2.out) (by simp))|(refine z8k _ rfl _ _ 63 rfl w3.heap.size 113 i0 _ 2 24 Tryz.underlying63 hi9 hz90 hz91 hz92 rfl (by decide) _ _ _ rfl FQ.out _ _ 1 _ rfl hO1.out (zs0 (h:=rfl)) ?c1 ?c2 ?c3 ?_;(case c1=>(unfold maxLen;omega));(case c2=>omega);(case c3=>first|omega|(simp;omega));intro v5 w5 hown hgrow hat5;have F5:=hid (FB.out.grown hgrow (fun j hj=>.inr ((HO.out.lt j hj).1)));have HW5:=hid hown;obtain⟨A5,c5,rfl,-⟩:=z05 hown;have C5:=hid (C3.out.go F5.out);clear hown hgrow hat5 e0 e1 e2;have e0:=C5.out.d.three.2.2;have e1:=C5.out.f.cell (HAT1.out) (by simp);have e2:=C5.out.f.cell (HAT2.out) (by simp))))
   have HK5:=hid (show w5.ownsRow w3.heap.size 113 2 (.slice A5 (k+1) c5) (k+1) (z07 (pl.take (k+1))) from by rw[TK.out];exact HW5.out);clear e0 e1 e2;go_wp2;go_roundg (mm - (k+1))
   case measure=>omega
   case rel=>exact⟨k+1,A5,c5,rfl,by omega,rfl,congrArg (Value.int .i64) (by have:=HM2.out;omega),HK5.out,F5.out⟩
  ·obtain rfl:k=mm:=by omega
   have jz:¬(((2 * k+1:Nat):Int) < (l.length:Int)):=by omega
   have jz2:¬2 * k+1 < l.length:=by omega
   have jz3:¬(2 * (k:Int)+1 < (l.length:Int)):=by omega
   have jz4:decide (2 * (k:Int)+1 < (l.length:Int))=false:=decide_eq_false jz3
   have HS9:=hid (show Sl wr wr.heap.size 2 (.slice Ao k co) k (z07 pl) from by
    have:=z0s HO.out;rw[List.take_of_length_le (by rw[PLH.out];exact Nat.le_refl _)] at this;exact this)
   have OP2:=hid (fun W u A c (q1:z0r W W.heap.size u x) (q:Sl W W.heap.size 2 (.slice A k c) k (z07 pl))=>(show Calls prog 263 #[u,.slice A k c] W (z4d nn cc y W) from by
    have h:=OP.out W u A c q1;rw[PLH.out] at h;exact h q))
   have e0:=CR.out.d.three.2.2;obtain⟨d0,d1,d2,d3,d4⟩:=five CR.out.b;clear hLL hlt;go_wp2_with fail;refine(OP2.out _ _ _ _ CR.out.i.item HS9.out).mono ?_;rintro e9 wq ⟨yv,rfl,hy,fq⟩;have CN:=hid (CR.out.go fq);have HY0:=hid (hy.less (show B0≤_ from CR.out.d.bz));obtain⟨A1,c1,A2,c2,A3,c3,rfl⟩:=hy.form;have hzq:=CN.out.f.size;have VB:=hid (Whole.new wq 65 (yIl y A1 c1 A2 c2 A3 c3));have C4:=hid (CN.out.go ((Fr.refl [] wq).alloc (.cells (yIa y A1 c1 A2 c2 A3 c3) 65)));have HY:=hid (HY0.out.go ((Fr.refl [] wq).alloc (.cells (yIa y A1 c1 A2 c2 A3 c3) 65)));obtain⟨gb,hgb⟩:∃gb,gb=wq.heap.size:=⟨_,rfl⟩;rw[←hgb] at VB;have hgz:w.heap.size < gb:=by have:=CN.out.q.lt;omega
   clear hy fq e0 d0 d1 d2 d3 d4;go_upto_region 10 with fail;rw[←hgb];clear hgb;obtain⟨m0,m1,m2,m3,m4⟩:=five VB.out;go_region_held3 (fun wx=>yIc wx gb y A1 c1 A2 c2 A3 c3) ((simp only[yIc];go_keep)) ((first|(go_at_call 237;refine(z0m _ _).mono ?_;rintro e5 w5 ⟨rfl,f5⟩;have C5:=hid (C4.out.go (z01 f5));have VB5:=hid (VB.out.f0 (z01 f5));have HY5:=hid (HY.out.go (z01 f5));clear f5 m0 m1 m2 m3 m4;obtain⟨m0,m1,m2,m3,m4⟩:=five VB5.out)|(go_at_call 236;refine(CH.out _ _ _ C5.out.d HY5.out (z19.bare _ _ _ _ _)).mono ?_;rintro e6 w6 ⟨u,rfl,hu,f6,hd⟩;obtain⟨R,rc,rfl⟩:=hu.form;have VB6:=hid (VB5.out.fr f6 (fun hm=>by have:=(H.out.low _ hm).2;omega));have Q6:=hid (C5.out.q.fr f6 (fun hm=>by have:=(H.out.low _ hm).2;omega));have HU:=hid hu;have HD:=hid hd;have F6:=hid (C5.out.f.up.trans f6);clear f6 hu hd m0 m1 m2 m3 m4;obtain⟨m0,m1,m2,m3,m4⟩:=five VB6.out;obtain⟨y0,y1,y2,y3⟩:=four Q6.out;obtain⟨z0,z1,z2,z3⟩:=z0h Q6.out;have hgz1:¬gb=w.heap.size:=(by omega);have hgz2:¬w.heap.size=gb:=(by omega))))
   obtain⟨sp,pr⟩:=pp;go_wp2;refine bodyPost_ret (v:=.agg (yRa pr R rc)) (by simp[results,Tryz.results187,go_sem,y0,y1,y2,y3]) rfl ?_;exact ChD.fin4 HU.out F6.out Q6.out hbz HD.out
structure Kw(g B0:Nat)(sv:Value)(now:Int)(lv:Value)(l:List ByteArray)(s:List Ent)(bs:List (Nat×Nat×List Value))(w wr:World):Prop where
 bl:∀p∈bs,Whole wr p.1 p.2.1 p.2.2
 lo:∀p∈bs,w.heap.size≤p.1
 d:Dr g B0 sv now lv l s wr
 f:Fr [] w wr
section
variable {g B0:Nat} {sv:Value} {now:Int} {lv:Value} {l:List ByteArray} {s:List Ent} {bs:List (Nat×Nat×List Value)} {w wr w1:World}
theorem Kw.go(h:Kw g B0 sv now lv l s bs w wr)(k:Fr [] wr w1):Kw g B0 sv now lv l s bs w w1:=⟨fun p hp=>(h.bl p hp).f0 k,h.lo,h.d.go k,h.f.trans k⟩
theorem zKW{y:Ent}{gb c1 c2 c3:Nat}{A1 A2 A3:Option Addr}(H:Hid (Dr g B0 sv now lv l s w))(P0:Hid (Whole ((w.alloc (.cells #[.pointer (some ⟨g,0,none⟩)] 154)).alloc (.cells #[.int .i64 0,.string ⟨#[]⟩,.int .i64 0,.slice none 0 0] 27)) w.heap.size 154 [.pointer (some ⟨g,0,none⟩)]))(Q0:Hid (Whole ((w.alloc (.cells #[.pointer (some ⟨g,0,none⟩)] 154)).alloc (.cells #[.int .i64 0,.string ⟨#[]⟩,.int .i64 0,.slice none 0 0] 27)) (w.heap.size+1) 27 [.int .i64 0,.string ⟨#[]⟩,.int .i64 0,.slice none 0 0]))(F0:Hid (Fr [] w ((w.alloc (.cells #[.pointer (some ⟨g,0,none⟩)] 154)).alloc (.cells #[.int .i64 0,.string ⟨#[]⟩,.int .i64 0,.slice none 0 0] 27))))(hf:Fr [] ((w.alloc (.cells #[.pointer (some ⟨g,0,none⟩)] 154)).alloc (.cells #[.int .i64 0,.string ⟨#[]⟩,.int .i64 0,.slice none 0 0] 27)) wr)(hw:Whole wr gb 81 [.string y.key,.int .i64 y.item.kind,.string y.item.text,.slice A1 y.item.list.length c1,.slice A2 y.item.pairs.length c2,.slice A3 y.item.scores.length c3,.int .i64 y.til])(hgb2:w.heap.size+1 < gb):
  Hid (Kw g B0 sv now lv l s [(w.heap.size,154,[.pointer (some ⟨g,0,none⟩)]),(w.heap.size+1,27,[.int .i64 0,.string ⟨#[]⟩,.int .i64 0,.slice none 0 0]),(gb,81,[.string y.key,.int .i64 y.item.kind,.string y.item.text,.slice A1 y.item.list.length c1,.slice A2 y.item.pairs.length c2,.slice A3 y.item.scores.length c3,.int .i64 y.til])] w wr):=hid (by
 refine⟨fun p hp=>?_,fun p hp=>?_,H.out.go (F0.out.trans hf),F0.out.trans hf⟩
 ·simp at hp;rcases hp with rfl|rfl|rfl
  ·exact P0.out.f0 hf
  ·exact Q0.out.f0 hf
  ·exact hw
 ·simp at hp;rcases hp with rfl|rfl|rfl
  ·exact Nat.le_refl _
  ·exact Nat.le_succ _
  ·show w.heap.size≤gb;omega)
theorem Kw.drew(h:Kw g B0 sv now lv l s bs w wr):Kw g B0 sv now lv l s bs w wr.drew:=h.go (Fr.refl [] _).drew
theorem Kw.keep(h:Kw g B0 sv now lv l s bs w wr)(H:Dr g B0 sv now lv l s w)(k:Fr (g :: z2f sv) wr w1):∀p∈bs,Whole w1 p.1 p.2.1 p.2.2:=fun p hp=>
 (h.bl p hp).fr k (fun hm=>by have:=(H.low _ hm).2;have:=h.lo p hp;omega)
end
theorem ChD.fin4o{g B0 o:Nat}{sv:Value}{now:Int}{lv:Value}{l:List ByteArray}{s:List Ent}{r:Rep}{w w4:World}{A:Option Addr}{k:Nat}{cs:List Value}(ho:w.heap.size≤o)(hc:z19 w4 (o+1) (.agg #[.int .i64 r.kind,.string r.text,.int .i64 r.n,.slice A r.list.length k]) r)(hf:Fr (g :: z2f sv) w w4)(hq:Whole w4 o 27 cs)(hB:B0≤w.heap.size)(hd:r.kind≠2→∃sv',Dr g B0 sv' now lv l s w4):
  ChD g B0 B0 sv now lv l (s,r) w (.returned (.agg #[.int .i64 r.kind,.string r.text,.int .i64 r.n,.slice A r.list.length k])) (set4 w4 o (.int .i64 r.kind) (.string r.text) (.int .i64 r.n) (.slice A r.list.length k)):=
 ⟨_,rfl,(hc.set4 (Nat.lt_succ_self _) _ _ _ _).base (by omega),z0g hf ho _ _ _ _,fun h=>(hd h).imp fun _ k=>k.set4W hq (by omega) _ _ _ _⟩
theorem ChD.fin4b{g B0 o:Nat}{sv:Value}{now:Int}{lv:Value}{l:List ByteArray}{s:List Ent}{r:Rep}{w w4:World}{A:Option Addr}{k:Nat}{cs:List Value}(ho:w.heap.size≤o)(hc:z19 w4 (o+1) (.agg #[.int .i64 r.kind,.string r.text,.int .i64 r.n,.slice A r.list.length k]) r)(hf:Fr (g :: z2f sv) w w4)(hq:Whole w4 o 27 cs)(hB:B0≤w.heap.size)(hd:r.kind≠2→∃sv',Dr g B0 sv' now lv l s w4):
  ChD g B0 w.heap.size sv now lv l (s,r) w (.returned (.agg #[.int .i64 r.kind,.string r.text,.int .i64 r.n,.slice A r.list.length k])) (set4 w4 o (.int .i64 r.kind) (.string r.text) (.int .i64 r.n) (.slice A r.list.length k)):=
 ⟨_,rfl,(hc.set4 (Nat.lt_succ_self _) _ _ _ _).base (by omega),z0g hf ho _ _ _ _,fun h=>(hd h).imp fun _ k=>k.set4W hq (by omega) _ _ _ _⟩
theorem z9g(s:List Ent)(now:Int)(k:ByteArray)(u:Int):z8g s now k (z2p 0) u=z50 s k∧z28 s now k (z2p 0) u=0:=by
 unfold z8g z28;rw[if_pos z3k,if_pos z3k];exact⟨rfl,rfl⟩
def zza(s:List Ent)(now:Int)(y:Ent)(n:Int):List Ent×Rep:=
 if n < 1 then (z50 s y.key,z0o 1) else if 1000000 < now+n then (s,z7n 3) else (if z28 s now y.key y.item (now+n)=0 then z8g s now y.key y.item (now+n) else s,orR (z0o 1) (z28 s now y.key y.item (now+n)) false)
theorem zk3(g B0:Nat)(sv:Value)(now:Int)(lv0:Value)(l:List ByteArray)(s:List Ent)(y:Ent)(A1:Option Addr)(c1:Nat)(A2:Option Addr)(c2:Nat)(A3:Option Addr)(c3:Nat)(n:Int)(w:World)(hr:rises (ltK Ent.key) s=true)(hl:s.length≤1000)(hsy:y.item.Small)(h0:0≤now∧now≤1000000)(hn:-999999999≤n∧n≤999999999)(h:Dr g B0 sv now lv0 l s w)(hc:z2o w B0 (z8f y A1 c1 A2 c2 A3 c3) y):
  Calls prog 246 #[.pointer (some ⟨g,0,none⟩),.agg #[.string y.key,.int .i64 y.item.kind,.string y.item.text,.slice A1 y.item.list.length c1,.slice A2 y.item.pairs.length c2,.slice A3 y.item.scores.length c3,.int .i64 y.til],.int .i64 n] w (ChD g B0 w.heap.size sv now lv0 l (zza s now y n) w):=by
 obtain⟨pc0,hpc0⟩:∃c:Int,c=0:=⟨_,rfl⟩
 have PT0:=hid (fun W (hd:Dr g B0 sv now lv0 l s W)=>(show Calls prog 233 #[.pointer (some ⟨g,0,none⟩),.string y.key,.agg yIza,.int .i64 0] W (PutD g B0 sv now lv0 l (z50 s y.key) pc0 W) from by
  have:=zab g B0 sv now lv0 l s y.key (z2p 0) (.agg yIza) 0 W hr hl z6v hd (z0q.nothing _ _);rw[(z9g s now y.key 0).1,(z9g s now y.key 0).2] at this;rw[hpc0];exact this))
 have HPC:=hid hpc0;clear hpc0;have PT:=hid (fun W (hd:Dr g B0 sv now lv0 l s W) (hy:z2o W B0 (z8f y A1 c1 A2 c2 A3 c3) y)=>zab g B0 sv now lv0 l s y.key y.item _ (now+n) W hr hl hsy hd hy.item)
 have KW:=hid (show Kw g B0 sv now lv0 l s [(w.heap.size,81,(yEl y A1 c1 A2 c2 A3 c3)),(w.heap.size+1,27,yRzl)] w ((w.alloc (.cells (yEa y A1 c1 A2 c2 A3 c3) 81)).alloc (.cells yRza 27)) from by
  refine⟨fun p hp=>?_,fun p hp=>?_,(h.go ((Fr.refl [] w).alloc _)).go ((Fr.refl [] _).alloc _),((Fr.refl [] w).alloc _).alloc _⟩
  ·simp at hp;rcases hp with rfl|rfl
   ·exact Whole.alloc (Whole.new w _ _) _
   ·exact z60 w _ _ _
  ·simp at hp;rcases hp with rfl|rfl
   ·exact Nat.le_refl _
   ·exact Nat.le_succ _)
 have HC:=hid (hc.fr (((Fr.refl [] w).alloc (.cells (yEa y A1 c1 A2 c2 A3 c3) 81)).alloc (.cells yRza 27)));have H:=hid h;have hlt:=h.lt;have hbz:=h.bz;have ED:=hid (show zza s now y n=if n < 1 then (z50 s y.key,z0o 1) else if 1000000 < now+n then (s,z7n 3) else (if z28 s now y.key y.item (now+n)=0 then z8g s now y.key y.item (now+n) else s,orR (z0o 1) (z28 s now y.key y.item (now+n)) false) from rfl);have dn1:=h.three.2.1;clear h hc hr;obtain⟨pp,hpp⟩:∃pp,pp=zza s now y n:=⟨_,rfl⟩;rw[←hpp];have HPP:=hid (hpp.trans ED.out);clear hpp ED;have G1:=hid ((KW.out.d).three.2.1);have g1:=G1.out;obtain⟨e0,e1,e2,e3,e4,e5,e6⟩:=seven (KW.out.bl _ (.head _));by_cases hn1:n < 1
 ·rw[if_pos hn1] at HPP;have q1:decide (n < 1)=true:=decide_eq_true hn1;go_enter Tryz.func246,Tryz.ntmps246;go_upto_region 3 with fail;have KD:=hid KW.out.drew;have HD:=hid (HC.out.fr (Fr.refl [] _).drew);clear KW HC e1 e2 e3 e4 e5 e6;have KW:=KD;have HC:=HD;clear KD HD;go_region_held3 (fun wx=>wx.cell? ⟨w.heap.size,0,none⟩=some (.string y.key)) (go_keep) ((first|(go_at_call 237;refine(z0m _ _).mono ?_;rintro e5 w5 ⟨rfl,f5⟩;have KN:=hid (KW.out.go f5);have HCN:=hid (HC.out.fr f5);clear KW HC e0;have KW:=KN;have HC:=HCN;clear KN HCN f5;have e0:=(KW.out.bl _ (.head _)).cell 0)|(go_at_call 233;refine(PT0.out _ KW.out.d).mono ?_;rintro e6 w6 ⟨rfl,f6,sv6,hg6,hd6⟩;have WB:=hid (KW.out.keep H.out f6);have F6:=hid (KW.out.f.up.trans f6);have D6:=hid hd6;have G6:=hid hg6;clear f6 hg6 hd6 e0;have e0:=(WB.out _ (.head _)).cell 0)|(go_at_call 231;refine(z4p (z0o 1) _ pc0 false (w.heap.size+1+1) _ (z19.bare _ _ _ _ _)).mono ?_;rintro e8 w8 ⟨rfl,f8⟩;have F8:=hid (F6.out.trans f8.up);have f8':=hid f8;have WB8:=hid (fun p hp=>(WB.out p hp).f0 f8);clear f8 e0;have e0:=(WB8.out _ (.head _)).cell 0;obtain⟨y0,y1,y2,y3⟩:=four (WB8.out _ (.tail _ (.head _)));obtain⟨z0,z1,z2,z3⟩:=z0h (WB8.out _ (.tail _ (.head _)));have HV:=hid (show z19 w8 (w.heap.size+1+1) (orV (.agg #[.int .i64 3,.string ⟨#[]⟩,.int .i64 1,.slice none 0 0]) pc0 false) (orR (z0o 1) pc0 false) from z8o (z19.bare _ _ _ _ _) pc0 false);obtain⟨S,sc9,hS⟩:=HV.out.form;have HS9:=hid hS;clear hS;rw[HS9.out])))
  have E9:=hid (show pp=(if pc0=0 then z50 s y.key else s,orR (z0o 1) pc0 false) from by rw[HPP.out,if_pos HPC.out,HPC.out];rfl);have HV9:=hid (show z19 w8 (w.heap.size+1+1) (.agg #[.int .i64 (orR (z0o 1) pc0 false).kind,.string (orR (z0o 1) pc0 false).text,.int .i64 (orR (z0o 1) pc0 false).n,.slice S (orR (z0o 1) pc0 false).list.length sc9]) (orR (z0o 1) pc0 false) from by have:=HV.out;rw[HS9.out] at this;exact this)
  have HD9:=hid (show(orR (z0o 1) pc0 false).kind≠2→∃sv',Dr g B0 sv' now lv0 l (if pc0=0 then (z50 s y.key) else s) w8 from fun hk=>by
   by_cases hp:pc0=0
   ·rw[if_pos hp];exact⟨_,(D6.out hp).go f8'.out⟩
   ·exact absurd (show(orR (z0o 1) pc0 false).kind=2 from by unfold orR;rw[if_neg hp,if_neg (fun h=>by cases h.2)];rfl) hk)
  generalize (if pc0=0 then (z50 s y.key) else s)=sf at *;generalize orR (z0o 1) pc0 false=q9 at *;go_wp2;refine bodyPost_ret (v:=.agg (yRa q9 S sc9)) (by simp[results,Tryz.results246,go_sem,y0,y1,y2,y3]) rfl ?_;rw[E9.out];exact ChD.fin4b (Nat.le_succ _) HV9.out F8.out (WB8.out _ (.tail _ (.head _))) hbz HD9.out
 ·rw[if_neg hn1] at HPP;have q1:decide (n < 1)=false:=decide_eq_false hn1;have q1':¬n < 1:=hn1;by_cases hm:1000000 < now+n
  ·rw[if_pos hm] at HPP;have q2:decide (now+n > 1000000)=true:=decide_eq_true hm;have q3:now+n > 1000000:=hm;go_enter Tryz.func246,Tryz.ntmps246;go_wp2_with fail;refine(zax 3 _).mono ?_;rintro e8 w8 ⟨rfl,f8⟩;have K8:=hid (KW.out.go f8);clear f8 e0 e1 e2 e3 e4 e5 e6;obtain⟨y0,y1,y2,y3⟩:=four (K8.out.bl _ (.tail _ (.head _)));obtain⟨z0,z1,z2,z3⟩:=z0h (K8.out.bl _ (.tail _ (.head _)));go_wp2;refine bodyPost_ret (v:=.agg #[.int .i64 2,.string ⟨#[]⟩,.int .i64 3,.slice none 0 0]) (by simp[results,Tryz.results246,go_sem,y0,y1,y2,y3]) rfl ?_;rw[HPP.out];exact ChD.fin4b (r:=z7n 3) (Nat.le_succ _) (z19.bare _ _ _ _ _) K8.out.f.up (K8.out.bl _ (.tail _ (.head _))) hbz (fun _=>⟨_,K8.out.d⟩)
  ·rw[if_neg hm] at HPP;have q2:¬now+n > 1000000:=hm;generalize z8g s now y.key y.item (now+n)=s2 at *;generalize hpc9:z28 s now y.key y.item (now+n)=pc at *;clear hpc9;go_enter Tryz.func246,Tryz.ntmps246;go_upto_region 6 with fail;have KD:=hid KW.out.drew;have HD:=hid (HC.out.fr (Fr.refl [] _).drew);clear KW HC;have KW:=KD;have HC:=HD;clear KD HD;go_region_held3 (fun wx=>wx.cell? ⟨w.heap.size,0,none⟩=some (.string y.key)∧wx.cell? ⟨w.heap.size,1,none⟩=some (.int .i64 y.item.kind)∧wx.cell? ⟨w.heap.size,2,none⟩=some (.string y.item.text)∧wx.cell? ⟨w.heap.size,3,none⟩=some (.slice A1 y.item.list.length c1)∧wx.cell? ⟨w.heap.size,4,none⟩=some (.slice A2 y.item.pairs.length c2)∧wx.cell? ⟨w.heap.size,5,none⟩=some (.slice A3 y.item.scores.length c3)) (go_keep) ((first|(go_at_call 237;refine(z0m _ _).mono ?_;rintro e5 w5 ⟨rfl,f5⟩;have KN:=hid (KW.out.go f5);have HCN:=hid (HC.out.fr f5);clear KW HC e0 e1 e2 e3 e4 e5 e6;have KW:=KN;have HC:=HCN;clear KN HCN f5;obtain⟨e0,e1,e2,e3,e4,e5,e6⟩:=seven (KW.out.bl _ (.head _)))|(go_at_call 233;refine(PT.out _ KW.out.d HC.out).mono ?_;rintro e6 w6 ⟨rfl,f6,sv6,hg6,hd6⟩;have WB:=hid (KW.out.keep H.out f6);have F6:=hid (KW.out.f.up.trans f6);have D6:=hid hd6;have G6:=hid hg6;clear f6 hg6 hd6 e0 e1 e2 e3 e4 e5 e6;obtain⟨e0,e1,e2,e3,e4,e5,e6⟩:=seven (WB.out _ (.head _)))|(go_at_call 231;refine(z4p (z0o 1) _ pc false (w.heap.size+1+1) _ (z19.bare _ _ _ _ _)).mono ?_;rintro e8 w8 ⟨rfl,f8⟩;have F8:=hid (F6.out.trans f8.up);have f8':=hid f8;have WB8:=hid (fun p hp=>(WB.out p hp).f0 f8);clear f8 e0 e1 e2 e3 e4 e5 e6;obtain⟨e0,e1,e2,e3,e4,e5,e6⟩:=seven (WB8.out _ (.head _));obtain⟨y0,y1,y2,y3⟩:=four (WB8.out _ (.tail _ (.head _)));obtain⟨z0,z1,z2,z3⟩:=z0h (WB8.out _ (.tail _ (.head _)));have HV:=hid (show z19 w8 (w.heap.size+1+1) (orV (.agg #[.int .i64 3,.string ⟨#[]⟩,.int .i64 1,.slice none 0 0]) pc false) (orR (z0o 1) pc false) from z8o (z19.bare _ _ _ _ _) pc false);obtain⟨S,sc9,hS⟩:=HV.out.form;have HS9:=hid hS;clear hS;rw[HS9.out])))
   have HV9:=hid (show z19 w8 (w.heap.size+1+1) (.agg #[.int .i64 (orR (z0o 1) pc false).kind,.string (orR (z0o 1) pc false).text,.int .i64 (orR (z0o 1) pc false).n,.slice S (orR (z0o 1) pc false).list.length sc9]) (orR (z0o 1) pc false) from by have:=HV.out;rw[HS9.out] at this;exact this)
   have HD9:=hid (show(orR (z0o 1) pc false).kind≠2→∃sv',Dr g B0 sv' now lv0 l (if pc=0 then s2 else s) w8 from fun hk=>by
    by_cases hp:pc=0
    ·rw[if_pos hp];exact⟨_,(D6.out hp).go f8'.out⟩
    ·exact absurd (show(orR (z0o 1) pc false).kind=2 from by unfold orR;rw[if_neg hp,if_neg (fun h=>by cases h.2)];rfl) hk)
   generalize (if pc=0 then s2 else s)=sf at *;generalize orR (z0o 1) pc false=q9 at *;go_wp2;refine bodyPost_ret (v:=.agg (yRa q9 S sc9)) (by simp[results,Tryz.results246,go_sem,y0,y1,y2,y3]) rfl ?_;rw[HPP.out];exact ChD.fin4b (Nat.le_succ _) HV9.out F8.out (WB8.out _ (.tail _ (.head _))) hbz HD9.out
theorem zvj{s:List Ent}(ok:z1y s)(now:Int)(k:ByteArray):0≤(z00 s now k).til∧(z00 s now k).til≤1000000:=by
 rcases z5d s now k with⟨h1,_⟩|⟨h1,_⟩
 ·rw[h1];decide
 ·exact ok.times _ h1
theorem ztu(x:Itm)(v:Value)(B:Nat)(w:World)(hk:0≤x.kind∧x.kind≤5)(h:z0r w B v x):Calls prog 244 #[v] w fun e w'=>e=.returned (.string (zks x.kind))∧Fr [] w w':=by
 obtain⟨A1,c1,A2,c2,A3,c3,rfl⟩:=h.form;have FF:=hid (((Fr.refl [] w).alloc (.cells #[.int .i64 x.kind,.string x.text,.slice A1 x.list.length c1,.slice A2 x.pairs.length c2,.slice A3 x.scores.length c3] 65)).alloc (.cells #[.string ⟨#[110,111,110,101]⟩,.string ⟨#[115,116,114,105,110,103]⟩,.string ⟨#[108,105,115,116]⟩,.string ⟨#[115,101,116]⟩,.string ⟨#[104,97,115,104]⟩,.string ⟨#[122,115,101,116]⟩] 9));have E:=hid (show zks x.kind=if x.kind=0 then toB [110,111,110,101] else if x.kind=1 then toB [115,116,114,105,110,103] else if x.kind=2 then toB [108,105,115,116] else if x.kind=3 then toB [115,101,116] else if x.kind=4 then toB [104,97,115,104] else toB [122,115,101,116] from rfl);clear h;generalize x.kind=kk at *;generalize x.text=tt at *;generalize x.list.length=n1 at *;generalize x.pairs.length=n2 at *;generalize x.scores.length=n3 at *;have hq:kk=0∨kk=1∨kk=2∨kk=3∨kk=4∨kk=5:=by omega
 rw[E.out];clear E hk;rcases hq with rfl|rfl|rfl|rfl|rfl|rfl
 all_goals
  go_enter Tryz.func244,Tryz.ntmps244;go_wp2;go_ret;exact⟨rfl,FF.out⟩
theorem zt9(ok:z1y s)(hn:1≤l.length)(h12:l.length≤11)(hz:∀t∈l,t.size≤60)(h:Dr g B0 sv now lv l s w):
  Calls prog 183 #[.pointer (some ⟨g,0,none⟩),.string ⟨#[116,121,112,101]⟩] w (ChD g B0 B0 sv now lv l (doC .type_ s now (c0 :: l)) w):=by
 have hr:=ok.rise;have hs16:=ok.le
 have hk5:0≤(z00 s now (wd l 0)).item.kind∧(z00 s now (wd l 0)).item.kind≤5:=by
  rcases z5a ok now (wd l 0) with⟨h1,_⟩|⟨h1,_⟩
  ·rw[h1];decide
  ·have:=(z4x h1).kind;omega
 have EP:doC .type_ s now (c0 :: l)=(s,z3n (zks (z00 s now (wd l 0)).item.kind)):=rfl;have KD:=hid (fun W v B (k:z0r W B v (z00 s now (wd l 0)).item)=>ztu (z00 s now (wd l 0)).item v B W hk5 k);rw[EP];clear EP hk5;have LK:=hid (fun W (hW:Fr [] w W)=>z1g s sv now (wd l 0) W B0 hr (by omega) (h.e.fr hW));have H:=hid h;have hlt:=h.lt;have hbz:=h.bz;obtain⟨SA,sc,rfl⟩:=h.sform;obtain⟨LA,lc,rfl⟩:=h.lform;obtain⟨b,off,rfl,hb,hc,hm,hat⟩:=h.word (by omega);have HAT:=hid hat;have DG:=hid (fun W (hW:Fr [] w W)=>(h.go hW).three);unfold maxLen at hm;clear h hr hat ok;generalize z00 s now (wd l 0)=y at *;generalize z18 s now (wd l 0)=bb at *;have ix0:(0:Int) < (l.length:Int):=by omega
 have F0:=zF2 w g;have P0:=zP0 w g;have Q0:=zQ0 w g;have F1:=zF3 F0;have V1:=zV1 w g;have hn1:¬g=w.heap.size+1+1:=by omega
 have hn2:¬w.heap.size+1+1=g:=by omega
 have hn3:¬b=w.heap.size+1+1:=by omega
 have hn4:¬w.heap.size+1+1=b:=by omega
 have hn5:¬w.heap.size=w.heap.size+1+1:=by omega
 have hn6:¬w.heap.size+1+1=w.heap.size:=by omega
 have ix0n:0 < l.length:=by omega
 have p0:=P0.out.cell 0;have p1:=(zP1 P0).cell 0;obtain⟨d0,d1,d2⟩:=DG.out _ F0.out;obtain⟨d3,d4,d5⟩:=DG.out _ F1.out;have d6:=F0.out.cell (HAT.out 0 (by omega)) (by simp);have d7:=F1.out.cell (HAT.out 0 (by omega)) (by simp);rw[Nat.add_zero] at d6 d7;go_enter Tryz.func183,Tryz.ntmps183;go_upto_region 1 with fail;go_cut [5,6] (fun pb po wx=>po=.bool bb∧z89 B0 y ((w.alloc (.cells #[.pointer (some ⟨g,0,none⟩)] 154)).alloc (.cells yRza 27)) pb wx)
 case first=>
  go_region_held3 (fun wx=>wx.cell? ⟨w.heap.size,0,none⟩=some (.pointer (some ⟨g,0,none⟩))∧wx.cell? ⟨g,0,none⟩=some (.slice SA s.length sc)∧wx.cell? ⟨g,1,none⟩=some (.int .i64 now)∧wx.cell? ⟨g,2,none⟩=some (.slice (some ⟨b,off,none⟩) l.length lc)∧wx.cell? ⟨b,off,none⟩=some (.string (wd l 0))) (go_keep) ((go_at_call 162;first|(refine(LK.out _ F0.out.drew).mono ?_;rintro e1 w1 ⟨A1,c1,A2,c2,A3,c3,rfl,hc,f1⟩;have F2:=hid (z01 f1);have F3:=hid (F0.out.trans F2.out);have HC:=hid hc;obtain⟨z0,z1,z2⟩:=DG.out _ F3.out;have z3:=F3.out.cell (HAT.out 0 (by omega)) (by simp);rw[Nat.add_zero] at z3;have z4:=(P0.out.f0 F2.out).cell 0;clear f1 hc)|(refine(LK.out _ F1.out.drew).mono ?_;rintro e1 w1 ⟨A1,c1,A2,c2,A3,c3,rfl,hc,f1⟩;have F2:=hid (z2b (z01 f1));have F3:=hid (F1.out.trans (z01 f1));have HC:=hid hc;have V2:=hid (V1.out.f0 (z01 f1));obtain⟨z0,z1,z2⟩:=DG.out _ F3.out;have z3:=F3.out.cell (HAT.out 0 (by omega)) (by simp);rw[Nat.add_zero] at z3;have z4:=((P0.out.alloc (.cells yEza 81)).f0 (z01 f1)).cell 0;have y7:=seven V2.out;have z7:=z3u V2.out;clear f1 hc)))
  all_goals
   go_wp2;go_meet
   case rel=>first|with_reducible exact⟨rfl,z89.new HC.out F2.out⟩|exact⟨rfl,z89.put HC.out F2.out (by simp) V2.out⟩
 clear d0 d1 d2 d3 d4 d5 d6 d7 p0 p1;obtain⟨rfl,gb,A1,c1,A2,c2,A3,c3,rfl,hgb,hw,hc,hf⟩:=hcut;have HC:=hid hc;have hgb2:w.heap.size+1 < gb:=by simp at hgb;omega
 have KW:=zKW H P0 Q0 F0 hf hw hgb2;clear hf hw hc hgb hn1 hn2 hn3 hn4 hn5 hn6;generalize zks y.item.kind=kw at *;obtain⟨e0,e1,e2,e3,e4,e5,e6⟩:=seven (KW.out.bl _ (.tail _ (.tail _ (.head _))));go_wp2_with fail;refine(KD.out _ _ _ HC.out.item.item).mono ?_;rintro e7 w7 ⟨rfl,f7⟩;have K7:=hid (KW.out.go f7);clear f7 e0 e1 e2 e3 e4 e5 e6;go_wp2_with fail;refine(zc6 _ _).mono ?_;rintro e8 w8 ⟨rfl,f8⟩;have K8:=hid (K7.out.go f8);clear f8;obtain⟨y0,y1,y2,y3⟩:=four (K8.out.bl _ (.tail _ (.head _)));obtain⟨z0,z1,z2,z3⟩:=z0h (K8.out.bl _ (.tail _ (.head _)));go_wp2;refine bodyPost_ret (v:=.agg #[.int .i64 1,.string kw,.int .i64 0,.slice none 0 0]) (by simp[results,Tryz.results183,go_sem,y0,y1,y2,y3]) rfl ?_;exact ChD.fin4o (r:=z3n kw) (Nat.le_succ _) (z19.bare _ _ _ _ _) K8.out.f.up (K8.out.bl _ (.tail _ (.head _))) hbz (fun _=>⟨_,K8.out.d⟩)
theorem z9v(t:ByteArray)(n:Int)(g B0:Nat)(sv:Value)(now:Int)(lv:Value)(l:List ByteArray)(s:List Ent)(w:World)(ok:z1y s)(hn:1≤l.length)(h:Dr g B0 sv now lv l s w)(ht:(t=⟨#[116,116,108]⟩∧n=-2∧z18 s now (wd l 0)=false)∨(t=⟨#[116,116,108]⟩∧n=-1∧z18 s now (wd l 0)=true∧(z00 s now (wd l 0)).til=0)∨(t=⟨#[112,101,114,115,105,115,116]⟩∧n=0∧z18 s now (wd l 0)=false)∨(t=⟨#[112,101,114,115,105,115,116]⟩∧n=0∧z18 s now (wd l 0)=true∧(z00 s now (wd l 0)).til=0)∨(t=⟨#[101,120,112,105,114,101]⟩∧n=0∧z18 s now (wd l 0)=false)):
  Calls prog 183 #[.pointer (some ⟨g,0,none⟩),.string t] w (ChD g B0 B0 sv now lv l (s,z0o n) w):=by
 have hr:=ok.rise;have hs16:=ok.le;have LK:=hid (fun W (hW:Fr [] w W)=>z1g s sv now (wd l 0) W B0 hr (by omega) (h.e.fr hW));have H:=hid h;have hlt:=h.lt;have hbz:=h.bz;obtain⟨SA,sc,rfl⟩:=h.sform;obtain⟨LA,lc,rfl⟩:=h.lform;obtain⟨b,off,rfl,hb,hc,hm,hat⟩:=h.word (by omega);have HAT:=hid hat;have DG:=hid (fun W (hW:Fr [] w W)=>(h.go hW).three);unfold maxLen at hm;clear h hr hat ok;generalize z00 s now (wd l 0)=y at *;generalize z18 s now (wd l 0)=bb at *;have ix0:(0:Int) < (l.length:Int):=by omega
 have HT:=hid ht;clear ht;have F0:=zF2 w g;have P0:=zP0 w g;have Q0:=zQ0 w g;have F1:=zF3 F0;have V1:=zV1 w g;have hn1:¬g=w.heap.size+1+1:=by omega
 have hn2:¬w.heap.size+1+1=g:=by omega
 have hn3:¬b=w.heap.size+1+1:=by omega
 have hn4:¬w.heap.size+1+1=b:=by omega
 have hn5:¬w.heap.size=w.heap.size+1+1:=by omega
 have hn6:¬w.heap.size+1+1=w.heap.size:=by omega
 have ix0n:0 < l.length:=by omega
 have p0:=P0.out.cell 0;have p1:=(zP1 P0).cell 0;obtain⟨d0,d1,d2⟩:=DG.out _ F0.out;obtain⟨d3,d4,d5⟩:=DG.out _ F1.out;have d6:=F0.out.cell (HAT.out 0 (by omega)) (by simp);have d7:=F1.out.cell (HAT.out 0 (by omega)) (by simp);rw[Nat.add_zero] at d6 d7;go_enter Tryz.func183,Tryz.ntmps183;go_upto_region 1 with fail;go_cut [5,6] (fun pb po wx=>po=.bool bb∧z89 B0 y ((w.alloc (.cells #[.pointer (some ⟨g,0,none⟩)] 154)).alloc (.cells yRza 27)) pb wx)
 case first=>
  go_region_held3 (fun wx=>wx.cell? ⟨w.heap.size,0,none⟩=some (.pointer (some ⟨g,0,none⟩))∧wx.cell? ⟨g,0,none⟩=some (.slice SA s.length sc)∧wx.cell? ⟨g,1,none⟩=some (.int .i64 now)∧wx.cell? ⟨g,2,none⟩=some (.slice (some ⟨b,off,none⟩) l.length lc)∧wx.cell? ⟨b,off,none⟩=some (.string (wd l 0))) (go_keep) ((go_at_call 162;first|(refine(LK.out _ F0.out.drew).mono ?_;rintro e1 w1 ⟨A1,c1,A2,c2,A3,c3,rfl,hc,f1⟩;have F2:=hid (z01 f1);have F3:=hid (F0.out.trans F2.out);have HC:=hid hc;obtain⟨z0,z1,z2⟩:=DG.out _ F3.out;have z3:=F3.out.cell (HAT.out 0 (by omega)) (by simp);rw[Nat.add_zero] at z3;have z4:=(P0.out.f0 F2.out).cell 0;clear f1 hc)|(refine(LK.out _ F1.out.drew).mono ?_;rintro e1 w1 ⟨A1,c1,A2,c2,A3,c3,rfl,hc,f1⟩;have F2:=hid (z2b (z01 f1));have F3:=hid (F1.out.trans (z01 f1));have HC:=hid hc;have V2:=hid (V1.out.f0 (z01 f1));obtain⟨z0,z1,z2⟩:=DG.out _ F3.out;have z3:=F3.out.cell (HAT.out 0 (by omega)) (by simp);rw[Nat.add_zero] at z3;have z4:=((P0.out.alloc (.cells yEza 81)).f0 (z01 f1)).cell 0;have y7:=seven V2.out;have z7:=z3u V2.out;clear f1 hc)))
  all_goals
   go_wp2;go_meet
   case rel=>first|with_reducible exact⟨rfl,z89.new HC.out F2.out⟩|exact⟨rfl,z89.put HC.out F2.out (by simp) V2.out⟩
 clear d0 d1 d2 d3 d4 d5 d6 d7 p0 p1;obtain⟨rfl,gb,A1,c1,A2,c2,A3,c3,rfl,hgb,hw,hc,hf⟩:=hcut;have HC:=hid hc;have hgb2:w.heap.size+1 < gb:=by simp at hgb;omega
 have KW:=zKW H P0 Q0 F0 hf hw hgb2;clear hf hw hc hgb hn1 hn2 hn3 hn4 hn5 hn6;rcases HT.out with⟨rfl,rfl,hb9⟩|⟨rfl,rfl,hb9,q9⟩|⟨rfl,rfl,hb9⟩|⟨rfl,rfl,hb9,q9⟩|⟨rfl,rfl,hb9⟩
 ·clear HT;subst hb9;have e6:=(KW.out.bl _ (.tail _ (.tail _ (.head _)))).cell 6;go_wp2_with fail;refine(z0m _ _).mono ?_;rintro e8 w8 ⟨rfl,f8⟩;have K8:=hid (KW.out.go f8);clear f8;obtain⟨y0,y1,y2,y3⟩:=four (K8.out.bl _ (.tail _ (.head _)));obtain⟨z0,z1,z2,z3⟩:=z0h (K8.out.bl _ (.tail _ (.head _)));go_wp2;refine bodyPost_ret (v:=.agg #[.int .i64 3,.string ⟨#[]⟩,.int .i64 (-2),.slice none 0 0]) (by simp[results,Tryz.results183,go_sem,y0,y1,y2,y3]) rfl ?_;exact ChD.fin4o (r:=z0o (-2)) (Nat.le_succ _) (z19.bare _ _ _ _ _) K8.out.f.up (K8.out.bl _ (.tail _ (.head _))) hbz (fun _=>⟨_,K8.out.d⟩)
 ·clear HT;subst hb9;have q3:(y.til==0)=true:=by simpa using q9
  clear q9;have e6:=(KW.out.bl _ (.tail _ (.tail _ (.head _)))).cell 6;go_wp2_with fail;refine(z0m _ _).mono ?_;rintro e8 w8 ⟨rfl,f8⟩;have K8:=hid (KW.out.go f8);clear f8;obtain⟨y0,y1,y2,y3⟩:=four (K8.out.bl _ (.tail _ (.head _)));obtain⟨z0,z1,z2,z3⟩:=z0h (K8.out.bl _ (.tail _ (.head _)));go_wp2;refine bodyPost_ret (v:=.agg #[.int .i64 3,.string ⟨#[]⟩,.int .i64 (-1),.slice none 0 0]) (by simp[results,Tryz.results183,go_sem,y0,y1,y2,y3]) rfl ?_;exact ChD.fin4o (r:=z0o (-1)) (Nat.le_succ _) (z19.bare _ _ _ _ _) K8.out.f.up (K8.out.bl _ (.tail _ (.head _))) hbz (fun _=>⟨_,K8.out.d⟩)
 ·clear HT;subst hb9;have e6:=(KW.out.bl _ (.tail _ (.tail _ (.head _)))).cell 6;go_wp2_with fail;refine(z0m _ _).mono ?_;rintro e8 w8 ⟨rfl,f8⟩;have K8:=hid (KW.out.go f8);clear f8;obtain⟨y0,y1,y2,y3⟩:=four (K8.out.bl _ (.tail _ (.head _)));obtain⟨z0,z1,z2,z3⟩:=z0h (K8.out.bl _ (.tail _ (.head _)));go_wp2;refine bodyPost_ret (v:=.agg #[.int .i64 3,.string ⟨#[]⟩,.int .i64 0,.slice none 0 0]) (by simp[results,Tryz.results183,go_sem,y0,y1,y2,y3]) rfl ?_;exact ChD.fin4o (r:=z0o 0) (Nat.le_succ _) (z19.bare _ _ _ _ _) K8.out.f.up (K8.out.bl _ (.tail _ (.head _))) hbz (fun _=>⟨_,K8.out.d⟩)
 ·clear HT;subst hb9;have q3:(y.til==0)=true:=by simpa using q9
  clear q9;have e6:=(KW.out.bl _ (.tail _ (.tail _ (.head _)))).cell 6;go_wp2_with fail;refine(z0m _ _).mono ?_;rintro e8 w8 ⟨rfl,f8⟩;have K8:=hid (KW.out.go f8);clear f8;obtain⟨y0,y1,y2,y3⟩:=four (K8.out.bl _ (.tail _ (.head _)));obtain⟨z0,z1,z2,z3⟩:=z0h (K8.out.bl _ (.tail _ (.head _)));go_wp2;refine bodyPost_ret (v:=.agg #[.int .i64 3,.string ⟨#[]⟩,.int .i64 0,.slice none 0 0]) (by simp[results,Tryz.results183,go_sem,y0,y1,y2,y3]) rfl ?_;exact ChD.fin4o (r:=z0o 0) (Nat.le_succ _) (z19.bare _ _ _ _ _) K8.out.f.up (K8.out.bl _ (.tail _ (.head _))) hbz (fun _=>⟨_,K8.out.d⟩)
 ·clear HT;subst hb9;have e6:=(KW.out.bl _ (.tail _ (.tail _ (.head _)))).cell 6;go_wp2_with fail;refine(z0m _ _).mono ?_;rintro e8 w8 ⟨rfl,f8⟩;have K8:=hid (KW.out.go f8);clear f8;obtain⟨y0,y1,y2,y3⟩:=four (K8.out.bl _ (.tail _ (.head _)));obtain⟨z0,z1,z2,z3⟩:=z0h (K8.out.bl _ (.tail _ (.head _)));go_wp2;refine bodyPost_ret (v:=.agg #[.int .i64 3,.string ⟨#[]⟩,.int .i64 0,.slice none 0 0]) (by simp[results,Tryz.results183,go_sem,y0,y1,y2,y3]) rfl ?_;exact ChD.fin4o (r:=z0o 0) (Nat.le_succ _) (z19.bare _ _ _ _ _) K8.out.f.up (K8.out.bl _ (.tail _ (.head _))) hbz (fun _=>⟨_,K8.out.d⟩)
theorem zyj(ok:z1y s)(hn:1≤l.length)(h12:l.length≤11)(hz:∀t∈l,t.size≤60)(h0:0≤now∧now≤1000000)(hk:z18 s now (wd l 0)=false)(h:Dr g B0 sv now lv l s w):
  Calls prog 183 #[.pointer (some ⟨g,0,none⟩),.string ⟨#[116,116,108]⟩] w (ChD g B0 B0 sv now lv l (doC .ttl s now (c0 :: l)) w):=by
 have LT:=z2l ok now (wd l 0)
 have EP:doC .ttl s now (c0 :: l)=(s,z0o (-2)):=by
  show(s,z0o (if (z00 s now (wd l 0)).item.kind=0 then -2 else if (z00 s now (wd l 0)).til=0 then -1 else (z00 s now (wd l 0)).til - now))=_;rw[hk] at LT;rw[if_pos (by simpa using LT.symm)]
 rw[EP];exact z9v _ (-2) g B0 sv now lv l s w ok (by omega) h (.inl ⟨rfl,rfl,hk⟩)
theorem zyf(ok:z1y s)(hn:1≤l.length)(h12:l.length≤11)(hz:∀t∈l,t.size≤60)(h0:0≤now∧now≤1000000)(hk:(z18 s now (wd l 0)=true∧(z00 s now (wd l 0)).til=0))(h:Dr g B0 sv now lv l s w):
  Calls prog 183 #[.pointer (some ⟨g,0,none⟩),.string ⟨#[116,116,108]⟩] w (ChD g B0 B0 sv now lv l (doC .ttl s now (c0 :: l)) w):=by
 have LT:=z2l ok now (wd l 0)
 have EP:doC .ttl s now (c0 :: l)=(s,z0o (-1)):=by
  show(s,z0o (if (z00 s now (wd l 0)).item.kind=0 then -2 else if (z00 s now (wd l 0)).til=0 then -1 else (z00 s now (wd l 0)).til - now))=_;rw[hk.1] at LT;rw[if_neg (by simpa using LT.symm)];rw[if_pos hk.2]
 rw[EP];exact z9v _ (-1) g B0 sv now lv l s w ok (by omega) h (.inr (.inl ⟨rfl,rfl,hk⟩))
theorem zz0(ok:z1y s)(hn:1≤l.length)(h12:l.length≤11)(hz:∀t∈l,t.size≤60)(h0:0≤now∧now≤1000000)(hk:(z18 s now (wd l 0)=true∧(z00 s now (wd l 0)).til≠0))(h:Dr g B0 sv now lv l s w):
  Calls prog 183 #[.pointer (some ⟨g,0,none⟩),.string ⟨#[116,116,108]⟩] w (ChD g B0 B0 sv now lv l (doC .ttl s now (c0 :: l)) w):=by
 have hr:=ok.rise;have hs16:=ok.le;have LT:=z2l ok now (wd l 0)
 have EP:doC .ttl s now (c0 :: l)=(s,z0o ((z00 s now (wd l 0)).til - now)):=by
  show(s,z0o (if (z00 s now (wd l 0)).item.kind=0 then -2 else if (z00 s now (wd l 0)).til=0 then -1 else (z00 s now (wd l 0)).til - now))=_;rw[hk.1] at LT;rw[if_neg (by simpa using LT.symm)];rw[if_neg hk.2]
 have bt:0≤(z00 s now (wd l 0)).til∧(z00 s now (wd l 0)).til≤1000000:=zvj ok now (wd l 0);rw[EP];clear EP LT;have LK:=hid (fun W (hW:Fr [] w W)=>z1g s sv now (wd l 0) W B0 hr (by omega) (h.e.fr hW));have H:=hid h;have hlt:=h.lt;have hbz:=h.bz;obtain⟨SA,sc,rfl⟩:=h.sform;obtain⟨LA,lc,rfl⟩:=h.lform;obtain⟨b,off,rfl,hb,hc,hm,hat⟩:=h.word (by omega);have HAT:=hid hat;have DG:=hid (fun W (hW:Fr [] w W)=>(h.go hW).three);unfold maxLen at hm;clear h hr hat ok;generalize z00 s now (wd l 0)=y at *;generalize z18 s now (wd l 0)=bb at *;have ix0:(0:Int) < (l.length:Int):=by omega
 have HB:=hid hk.1;have q3:(y.til==0)=false:=by simpa using hk.2
 clear hk;have F0:=zF2 w g;have P0:=zP0 w g;have Q0:=zQ0 w g;have F1:=zF3 F0;have V1:=zV1 w g;have hn1:¬g=w.heap.size+1+1:=by omega
 have hn2:¬w.heap.size+1+1=g:=by omega
 have hn3:¬b=w.heap.size+1+1:=by omega
 have hn4:¬w.heap.size+1+1=b:=by omega
 have hn5:¬w.heap.size=w.heap.size+1+1:=by omega
 have hn6:¬w.heap.size+1+1=w.heap.size:=by omega
 have ix0n:0 < l.length:=by omega
 have p0:=P0.out.cell 0;have p1:=(zP1 P0).cell 0;obtain⟨d0,d1,d2⟩:=DG.out _ F0.out;obtain⟨d3,d4,d5⟩:=DG.out _ F1.out;have d6:=F0.out.cell (HAT.out 0 (by omega)) (by simp);have d7:=F1.out.cell (HAT.out 0 (by omega)) (by simp);rw[Nat.add_zero] at d6 d7;go_enter Tryz.func183,Tryz.ntmps183;go_upto_region 1 with fail;go_cut [5,6] (fun pb po wx=>po=.bool bb∧z89 B0 y ((w.alloc (.cells #[.pointer (some ⟨g,0,none⟩)] 154)).alloc (.cells yRza 27)) pb wx)
 case first=>
  go_region_held3 (fun wx=>wx.cell? ⟨w.heap.size,0,none⟩=some (.pointer (some ⟨g,0,none⟩))∧wx.cell? ⟨g,0,none⟩=some (.slice SA s.length sc)∧wx.cell? ⟨g,1,none⟩=some (.int .i64 now)∧wx.cell? ⟨g,2,none⟩=some (.slice (some ⟨b,off,none⟩) l.length lc)∧wx.cell? ⟨b,off,none⟩=some (.string (wd l 0))) (go_keep) ((go_at_call 162;first|(refine(LK.out _ F0.out.drew).mono ?_;rintro e1 w1 ⟨A1,c1,A2,c2,A3,c3,rfl,hc,f1⟩;have F2:=hid (z01 f1);have F3:=hid (F0.out.trans F2.out);have HC:=hid hc;obtain⟨z0,z1,z2⟩:=DG.out _ F3.out;have z3:=F3.out.cell (HAT.out 0 (by omega)) (by simp);rw[Nat.add_zero] at z3;have z4:=(P0.out.f0 F2.out).cell 0;clear f1 hc)|(refine(LK.out _ F1.out.drew).mono ?_;rintro e1 w1 ⟨A1,c1,A2,c2,A3,c3,rfl,hc,f1⟩;have F2:=hid (z2b (z01 f1));have F3:=hid (F1.out.trans (z01 f1));have HC:=hid hc;have V2:=hid (V1.out.f0 (z01 f1));obtain⟨z0,z1,z2⟩:=DG.out _ F3.out;have z3:=F3.out.cell (HAT.out 0 (by omega)) (by simp);rw[Nat.add_zero] at z3;have z4:=((P0.out.alloc (.cells yEza 81)).f0 (z01 f1)).cell 0;have y7:=seven V2.out;have z7:=z3u V2.out;clear f1 hc)))
  all_goals
   go_wp2;go_meet
   case rel=>first|with_reducible exact⟨rfl,z89.new HC.out F2.out⟩|exact⟨rfl,z89.put HC.out F2.out (by simp) V2.out⟩
 clear d0 d1 d2 d3 d4 d5 d6 d7 p0 p1;obtain⟨rfl,gb,A1,c1,A2,c2,A3,c3,rfl,hgb,hw,hc,hf⟩:=hcut;have HC:=hid hc;have hgb2:w.heap.size+1 < gb:=by simp at hgb;omega
 have KW:=zKW H P0 Q0 F0 hf hw hgb2;clear hf hw hc hgb hn1 hn2 hn3 hn4 hn5 hn6;have hb9:=HB.out;clear HB;subst hb9;have jw:IntKind.i64.wrap (y.til - now)=y.til - now:=IntWalk.i64_in _ (by omega);have KD:=hid KW.out.drew;have e6:=(KW.out.bl _ (.tail _ (.tail _ (.head _)))).cell 6;have p0:=(KW.out.bl _ (.head _)).cell 0;have d1:=KW.out.d.three.2.1;have hz1:¬w.heap.size=w.heap.size+1:=by omega
 have hz2:¬g=w.heap.size+1:=by omega
 have hz3:¬gb=w.heap.size+1:=by omega
 have hz4:¬w.heap.size+1=gb:=by omega
 have hz5:¬w.heap.size+1=g:=by omega
 go_upto_region 16 with fail;go_region_held3 (fun wx=>wx.cell? ⟨w.heap.size,0,none⟩=some (.pointer (some ⟨g,0,none⟩))∧wx.cell? ⟨g,1,none⟩=some (.int .i64 now)∧wx.cell? ⟨gb,6,none⟩=some (.int .i64 y.til)) (go_keep) ((go_at_call 237;refine(z0m _ _).mono ?_;rintro e8 w8 ⟨rfl,f8⟩;have K8:=hid (KD.out.go f8);clear f8 e6 p0 d1;have e6:=(K8.out.bl _ (.tail _ (.tail _ (.head _)))).cell 6;have p0:=(K8.out.bl _ (.head _)).cell 0;have d1:=K8.out.d.three.2.1;obtain⟨y0,y1,y2,y3⟩:=four (K8.out.bl _ (.tail _ (.head _)));obtain⟨z0,z1,z2,z3⟩:=z0h (K8.out.bl _ (.tail _ (.head _)))));go_wp2;refine bodyPost_ret (v:=.agg #[.int .i64 3,.string ⟨#[]⟩,.int .i64 (y.til - now),.slice none 0 0]) (by simp[results,Tryz.results183,go_sem,y0,y1,y2,y3]) rfl ?_;exact ChD.fin4o (r:=z0o (y.til - now)) (Nat.le_succ _) (z19.bare _ _ _ _ _) K8.out.f.up (K8.out.bl _ (.tail _ (.head _))) hbz (fun _=>⟨_,K8.out.d⟩)
theorem zzq(ok:z1y s)(hn:1≤l.length)(h12:l.length≤11)(hz:∀t∈l,t.size≤60)(h0:0≤now∧now≤1000000)(h:Dr g B0 sv now lv l s w):
  Calls prog 183 #[.pointer (some ⟨g,0,none⟩),.string ⟨#[116,116,108]⟩] w (ChD g B0 B0 sv now lv l (doC .ttl s now (c0 :: l)) w):=by
 rcases hb:z18 s now (wd l 0) with _|_
 ·exact zyj g B0 sv now lv l s c0 w ok hn h12 hz h0 hb h
 ·by_cases ht:(z00 s now (wd l 0)).til=0
  ·exact zyf g B0 sv now lv l s c0 w ok hn h12 hz h0 ⟨hb,ht⟩ h
  ·exact zz0 g B0 sv now lv l s c0 w ok hn h12 hz h0 ⟨hb,ht⟩ h
end
end Go.Proofs.YtmalkppcahogjaaGreatDoor
