/- Contracts that the proof of E3 uses. No condition beyond those in each theorem. -/
import Derived.Test.YtamgdmiopinidaaGreatDoorSlE324
import Derived.Test.YtamgdmiopinidaaGreatDoorSlE329
set_option linter.unusedVariables false
set_option linter.unusedSimpArgs false
set_option maxHeartbeats 8000000
set_option maxRecDepth 100000
namespace Go.Proofs.YtamgdmiopinidaaGreatDoor
open Lib (hid)
open Go.Proofs.Tryz (prog)
open Go.RowKit
theorem zus(g B0:Nat)(sv:Value)(now:Int)(lv:Value)(l:List ByteArray)(s:List Ent)(c0:ByteArray)(w:World)(ok:z1m s)(hn:2≤l.length)(h12:l.length≤11)(hz:∀t∈l,t.size≤60)(h:Dr g B0 sv now lv l s w) :
  Calls prog 131 #[.pointer (some ⟨g,0,none⟩),.string ⟨#[115,97,100,100]⟩] w (ChD g B0 B0 sv now lv l (doC .sadd s now (c0 :: l)) w):=by
 have hr:=ok.rise
 have hs16:=ok.le
 have DI:=zDI hr hs16 h
 have LS:=hid (z0a (z07 ok) now (wd l 0)).item
 have hzw:∀i,(wd l i).size≤60:=z0s hz
 have EP:doC .sadd s now (c0 :: l)=fin s now (wd l 0) (z9c (z00 s now (wd l 0)).item (l.drop 1)) (z00 s now (wd l 0)).til true false (zdf (z00 s now (wd l 0)).item (l.drop 1)) (z0h (zdh (z00 s now (wd l 0)).item (l.drop 1))):=rfl
 have SY:=hid (show(z9c (z00 s now (wd l 0)).item (l.drop 1)).Small from zih _ _)
 have htl:(l.drop 1).length=l.length - 1:=by rw[List.length_drop]
 have OP:=hid (fun W u A c (k:z0q W W.heap.size u (z00 s now (wd l 0)).item) (q:Sl W W.heap.size 1 (.slice A (l.length - 1) c) (l.length - 1) (z03 (l.drop 1)))=>(show Calls prog 187 #[u,.slice A (l.length - 1) c] W (z4k (zdh (z00 s now (wd l 0)).item (l.drop 1)) (zdf (z00 s now (wd l 0)).item (l.drop 1)) (z9c (z00 s now (wd l 0)).item (l.drop 1)) W) from by
  rw[←htl] at q ⊢
  exact zm6 (z00 s now (wd l 0)).item u (l.drop 1) A c W W.heap.size LS.out (Nat.le_refl _) k (by omega) q))
 clear htl
 have CH:=zCH g B0 sv now lv l s w (z9c (z00 s now (wd l 0)).item (l.drop 1)) (z0h (zdh (z00 s now (wd l 0)).item (l.drop 1))) (zdf (z00 s now (wd l 0)).item (l.drop 1)) ok (by omega) SY
 rw[EP]
 clear EP SY
 have H:=hid h
 have hlt:=h.lt
 have hbz:=h.bz
 obtain⟨SA,sc,rfl⟩:=h.sform
 obtain⟨LA,lc,rfl⟩:=h.lform
 obtain⟨b,off,rfl,hb,hc,hm,hat⟩:=h.word (by omega)
 have HAT:=hid hat
 have DG:=hid (fun W (hW:Fr [] w W)=>(h.go hW).three)
 unfold maxLen at hm
 clear h hr hat hzw ok
 generalize fin s now (wd l 0) (z9c (z00 s now (wd l 0)).item (l.drop 1)) (z00 s now (wd l 0)).til true false (zdf (z00 s now (wd l 0)).item (l.drop 1)) (z0h (zdh (z00 s now (wd l 0)).item (l.drop 1)))=pp at *
 generalize z9c (z00 s now (wd l 0)).item (l.drop 1)=y at *
 generalize zdh (z00 s now (wd l 0)).item (l.drop 1)=nn at *
 generalize zdf (z00 s now (wd l 0)).item (l.drop 1)=cc at *
 generalize (z00 s now (wd l 0)).item=x at *
 have sx1:(1:Int)≤(l.length:Int):=by omega
 have sx2:(l.length:Int)≤(lc:Int):=by omega
 have sx3:¬lc=1:=by omega
 have sx4:(1:Int)≤(lc:Int):=by omega
 have SLT:=hid (fun W (hW:Fr [] w W)=>zah ((H.out.go hW).l.more (H.out.go hW).bz) (by omega) sx3)
 have F0:=zF w
 have Q0:=zQ w
 obtain⟨d0,d1,d2⟩:=DG.out _ F0.out
 have dw:=F0.out.cell (HAT.out 0 (by omega)) (by simp)
 rw[Nat.add_zero] at dw
 go_enter Tryz.func131,Tryz.ntmps131
 go_wp2_with fail
 refine(DI.out _ F0.out).mono ?_
 rintro e1 w1 ⟨xv,rfl,hi,f1⟩
 have F1:=hid (F0.out.trans f1)
 have Q1:=hid (Q0.out.fr f1 (by simp))
 have HI:=hid hi
 obtain⟨X1,x1,X2,x2,X3,x3,rfl⟩:=hi.form
 have hz1:=f1.size
 simp at hz1
 clear f1 hi d0 d1 d2 dw
 have C1:=zC1 Q1 HI H F1
 have C2:=hid (C1.out.go ((Fr.refl [] _).alloc (.cells #[.int .i64 0,.string ⟨#[]⟩,.slice none 0 0,.slice none 0 0,.slice none 0 0] 43)))
 obtain⟨d0,d1,d2,d3,d4⟩:=five C1.out.b
 have d5:=(C1.out.d).three.2.2
 obtain⟨h0,h1,h2,h3,h4⟩:=five C2.out.b
 have h5:=(C2.out.d).three.2.2
 have V2:=hid (z3s w1 (.cells #[.int .i64 x.kind,.string x.text,.slice X1 x.list.length x1,.slice X2 x.pairs.length x2,.slice X3 x.scores.length x3] 43) 43 [.int .i64 0,.string ⟨#[]⟩,.slice none 0 0,.slice none 0 0,.slice none 0 0])
 have hb1:¬g=w1.heap.size+1:=by have:=C1.out.d.lt;simp at this;omega
 have hb2:¬w1.heap.size+1=g:=by have:=C1.out.d.lt;simp at this;omega
 have hb3:¬b=w1.heap.size+1:=by omega
 have hb4:¬w1.heap.size+1=b:=by omega
 go_upto_region 4 with fail
 go_cut [6,7,8] (fun pb pn pe wx=>pn=.int .i64 nn∧pe=.int .i64 cc∧z8t B0 y (w1.alloc (.cells #[.int .i64 x.kind,.string x.text,.slice X1 x.list.length x1,.slice X2 x.pairs.length x2,.slice X3 x.scores.length x3] 43)) pb wx)
 case first=>
  go_region_held3 (fun wx=>wx.cell? ⟨w1.heap.size,0,none⟩=some (.int .i64 x.kind)∧wx.cell? ⟨w1.heap.size,1,none⟩=some (.string x.text)∧wx.cell? ⟨w1.heap.size,2,none⟩=some (.slice X1 x.list.length x1)∧wx.cell? ⟨w1.heap.size,3,none⟩=some (.slice X2 x.pairs.length x2)∧wx.cell? ⟨w1.heap.size,4,none⟩=some (.slice X3 x.scores.length x3)∧wx.cell? ⟨g,2,none⟩=some (.slice (some ⟨b,off,none⟩) l.length lc)) (go_keep) ((first|fail|(go_at_call 187;first|(refine(OP.out _ _ _ _ C1.out.drew.i.item (SLT.out _ C1.out.drew.f)).mono ?_;rintro e3 w3 ⟨yv,rfl,hy,f3⟩;obtain⟨A1,c1,A2,c2,A3,c3,rfl⟩:=hy.form;have C3:=hid (C1.out.go (z01 f3));have F3:=hid (z01 f3);have HY:=hid (hy.less (show B0≤_ from C1.out.d.bz));obtain⟨k0,k1,k2,k3,k4⟩:=five C3.out.b;have k5:=(C3.out.d).three.2.2;clear f3 hy d0 d1 d2 d3 d4 d5 h0 h1 h2 h3 h4 h5)|(refine(OP.out _ _ _ _ C2.out.drew.i.item (SLT.out _ C2.out.drew.f)).mono ?_;rintro e3 w3 ⟨yv,rfl,hy,f3⟩;obtain⟨A1,c1,A2,c2,A3,c3,rfl⟩:=hy.form;have C3:=hid (C2.out.go (z01 f3));have F3:=hid (z2g (z01 f3));have V3:=hid (V2.out.fr (z01 f3) (by simp));have y7:=five V3.out;have z7:=z10 V3.out;have HY:=hid (hy.less (show B0≤_ from C2.out.d.bz));obtain⟨k0,k1,k2,k3,k4⟩:=five C3.out.b;have k5:=(C3.out.d).three.2.2;clear f3 hy d0 d1 d2 d3 d4 d5 h0 h1 h2 h3 h4 h5))))
  all_goals
   go_wp2
   go_meet
   case rel=>first|with_reducible exact⟨rfl,rfl,z8t.new HY.out F3.out⟩|exact⟨rfl,rfl,z8t.put HY.out F3.out (by simp) V3.out⟩
 clear d0 d1 d2 d3 d4 d5 h0 h1 h2 h3 h4 h5
 obtain⟨rfl,rfl,gb,A1,c1,A2,c2,A3,c3,rfl,hgb,hw,hy,hf⟩:=hcut
 have HY:=hid hy
 have VB:=hid hw
 have C4:=hid (C1.out.go hf)
 have hgz:w.heap.size < gb:=by have:=C1.out.f.size;simp at hgb;have:=C1.out.gx;omega
 clear hw hy hf hgb
 obtain⟨m0,m1,m2,m3,m4⟩:=five VB.out
 go_upto_region 5 with fail
 go_region_held3 (fun wx=>wx.cell? ⟨gb,0,none⟩=some (.int .i64 y.kind)∧wx.cell? ⟨gb,1,none⟩=some (.string y.text)∧wx.cell? ⟨gb,2,none⟩=some (.slice A1 y.list.length c1)∧wx.cell? ⟨gb,3,none⟩=some (.slice A2 y.pairs.length c2)∧wx.cell? ⟨gb,4,none⟩=some (.slice A3 y.scores.length c3)) (go_keep) ((first|(go_at_call 171;refine(z0j _ _).mono ?_;rintro e5 w5 ⟨rfl,f5⟩;have C5:=hid (C4.out.go (z01 f5));have VB5:=hid (VB.out.fr (z01 f5) (by simp));have HY5:=hid (HY.out.go (z01 f5));clear f5 m0 m1 m2 m3 m4;obtain⟨m0,m1,m2,m3,m4⟩:=five VB5.out)|(go_at_call 170;refine(CH.out _ _ _ C5.out.d HY5.out (z1f.bare _ _ _ _ _)).mono ?_;rintro e6 w6 ⟨u,rfl,hu,f6,hd⟩;obtain⟨R,rc,rfl⟩:=hu.form;have VB6:=hid (VB5.out.fr f6 (fun hm=>by have:=(H.out.low _ hm).2;omega));have Q6:=hid (C5.out.q.fr f6 (fun hm=>by have:=(H.out.low _ hm).2;omega));have HU:=hid hu;have HD:=hid hd;have F6:=hid (C5.out.f.up.trans f6);clear f6 hu hd m0 m1 m2 m3 m4;obtain⟨m0,m1,m2,m3,m4⟩:=five VB6.out;obtain⟨y0,y1,y2,y3⟩:=four Q6.out;obtain⟨z0,z1,z2,z3⟩:=z0w Q6.out;have hgz1:¬gb=w.heap.size:=(by omega);have hgz2:¬w.heap.size=gb:=(by omega))))
 obtain⟨sp,pr⟩:=pp
 go_wp2
 refine bodyPost_ret (v:=.agg #[.int .i64 pr.kind,.string pr.text,.int .i64 pr.n,.slice R pr.list.length rc]) (by simp[results,Tryz.results131,go_sem,y0,y1,y2,y3]) rfl ?_
 exact ChD.fin4 HU.out F6.out Q6.out hbz HD.out
theorem zwa(g B0:Nat)(sv:Value)(now:Int)(lv:Value)(l:List ByteArray)(s:List Ent)(c0:ByteArray)(w:World)(ok:z1m s)(hn:2≤l.length)(h12:l.length≤11)(hz:∀t∈l,t.size≤60)(h:Dr g B0 sv now lv l s w) :
  Calls prog 131 #[.pointer (some ⟨g,0,none⟩),.string ⟨#[115,114,101,109]⟩] w (ChD g B0 B0 sv now lv l (doC .srem s now (c0 :: l)) w):=by
 have hr:=ok.rise
 have hs16:=ok.le
 have DI:=zDI hr hs16 h
 have LS:=hid (z0a (z07 ok) now (wd l 0)).item
 have hzw:∀i,(wd l i).size≤60:=z0s hz
 have EP:doC .srem s now (c0 :: l)=fin s now (wd l 0) (z60 3 (z00 s now (wd l 0)).item (l.drop 1)) (z00 s now (wd l 0)).til true false (z02 3 (z00 s now (wd l 0)).item) (z0h (z9r 3 (z00 s now (wd l 0)).item (l.drop 1))):=rfl
 have SY:=hid (show(z60 3 (z00 s now (wd l 0)).item (l.drop 1)).Small from zh4 _ _)
 have htl:(l.drop 1).length=l.length - 1:=by rw[List.length_drop]
 have OP:=hid (fun W u A c (k:z0q W W.heap.size u (z00 s now (wd l 0)).item) (q:Sl W W.heap.size 1 (.slice A (l.length - 1) c) (l.length - 1) (z03 (l.drop 1)))=>(show Calls prog 188 #[u,.slice A (l.length - 1) c] W (z4k (z9r 3 (z00 s now (wd l 0)).item (l.drop 1)) (z02 3 (z00 s now (wd l 0)).item) (z60 3 (z00 s now (wd l 0)).item (l.drop 1)) W) from by
  rw[←htl] at q ⊢
  exact zfx (z00 s now (wd l 0)).item u (l.drop 1) A c W W.heap.size LS.out (Nat.le_refl _) k (by omega) q))
 clear htl
 have CH:=zCH g B0 sv now lv l s w (z60 3 (z00 s now (wd l 0)).item (l.drop 1)) (z0h (z9r 3 (z00 s now (wd l 0)).item (l.drop 1))) (z02 3 (z00 s now (wd l 0)).item) ok (by omega) SY
 rw[EP]
 clear EP SY
 have H:=hid h
 have hlt:=h.lt
 have hbz:=h.bz
 obtain⟨SA,sc,rfl⟩:=h.sform
 obtain⟨LA,lc,rfl⟩:=h.lform
 obtain⟨b,off,rfl,hb,hc,hm,hat⟩:=h.word (by omega)
 have HAT:=hid hat
 have DG:=hid (fun W (hW:Fr [] w W)=>(h.go hW).three)
 unfold maxLen at hm
 clear h hr hat hzw ok
 generalize fin s now (wd l 0) (z60 3 (z00 s now (wd l 0)).item (l.drop 1)) (z00 s now (wd l 0)).til true false (z02 3 (z00 s now (wd l 0)).item) (z0h (z9r 3 (z00 s now (wd l 0)).item (l.drop 1)))=pp at *
 generalize z60 3 (z00 s now (wd l 0)).item (l.drop 1)=y at *
 generalize z9r 3 (z00 s now (wd l 0)).item (l.drop 1)=nn at *
 generalize z02 3 (z00 s now (wd l 0)).item=cc at *
 generalize (z00 s now (wd l 0)).item=x at *
 have sx1:(1:Int)≤(l.length:Int):=by omega
 have sx2:(l.length:Int)≤(lc:Int):=by omega
 have sx3:¬lc=1:=by omega
 have sx4:(1:Int)≤(lc:Int):=by omega
 have SLT:=hid (fun W (hW:Fr [] w W)=>zah ((H.out.go hW).l.more (H.out.go hW).bz) (by omega) sx3)
 have F0:=zF w
 have Q0:=zQ w
 obtain⟨d0,d1,d2⟩:=DG.out _ F0.out
 have dw:=F0.out.cell (HAT.out 0 (by omega)) (by simp)
 rw[Nat.add_zero] at dw
 go_enter Tryz.func131,Tryz.ntmps131
 go_wp2_with fail
 refine(DI.out _ F0.out).mono ?_
 rintro e1 w1 ⟨xv,rfl,hi,f1⟩
 have F1:=hid (F0.out.trans f1)
 have Q1:=hid (Q0.out.fr f1 (by simp))
 have HI:=hid hi
 obtain⟨X1,x1,X2,x2,X3,x3,rfl⟩:=hi.form
 have hz1:=f1.size
 simp at hz1
 clear f1 hi d0 d1 d2 dw
 have C1:=zC1 Q1 HI H F1
 have C2:=hid (C1.out.go ((Fr.refl [] _).alloc (.cells #[.int .i64 0,.string ⟨#[]⟩,.slice none 0 0,.slice none 0 0,.slice none 0 0] 43)))
 obtain⟨d0,d1,d2,d3,d4⟩:=five C1.out.b
 have d5:=(C1.out.d).three.2.2
 obtain⟨h0,h1,h2,h3,h4⟩:=five C2.out.b
 have h5:=(C2.out.d).three.2.2
 have V2:=hid (z3s w1 (.cells #[.int .i64 x.kind,.string x.text,.slice X1 x.list.length x1,.slice X2 x.pairs.length x2,.slice X3 x.scores.length x3] 43) 43 [.int .i64 0,.string ⟨#[]⟩,.slice none 0 0,.slice none 0 0,.slice none 0 0])
 have hb1:¬g=w1.heap.size+1:=by have:=C1.out.d.lt;simp at this;omega
 have hb2:¬w1.heap.size+1=g:=by have:=C1.out.d.lt;simp at this;omega
 have hb3:¬b=w1.heap.size+1:=by omega
 have hb4:¬w1.heap.size+1=b:=by omega
 go_upto_region 7 with fail
 go_cut [9,10,11] (fun pb pn pe wx=>pn=.int .i64 nn∧pe=.int .i64 cc∧z8t B0 y (w1.alloc (.cells #[.int .i64 x.kind,.string x.text,.slice X1 x.list.length x1,.slice X2 x.pairs.length x2,.slice X3 x.scores.length x3] 43)) pb wx)
 case first=>
  go_region_held3 (fun wx=>wx.cell? ⟨w1.heap.size,0,none⟩=some (.int .i64 x.kind)∧wx.cell? ⟨w1.heap.size,1,none⟩=some (.string x.text)∧wx.cell? ⟨w1.heap.size,2,none⟩=some (.slice X1 x.list.length x1)∧wx.cell? ⟨w1.heap.size,3,none⟩=some (.slice X2 x.pairs.length x2)∧wx.cell? ⟨w1.heap.size,4,none⟩=some (.slice X3 x.scores.length x3)∧wx.cell? ⟨g,2,none⟩=some (.slice (some ⟨b,off,none⟩) l.length lc)) (go_keep) ((first|fail|(go_at_call 188;first|(refine(OP.out _ _ _ _ C1.out.drew.i.item (SLT.out _ C1.out.drew.f)).mono ?_;rintro e3 w3 ⟨yv,rfl,hy,f3⟩;obtain⟨A1,c1,A2,c2,A3,c3,rfl⟩:=hy.form;have C3:=hid (C1.out.go (z01 f3));have F3:=hid (z01 f3);have HY:=hid (hy.less (show B0≤_ from C1.out.d.bz));obtain⟨k0,k1,k2,k3,k4⟩:=five C3.out.b;have k5:=(C3.out.d).three.2.2;clear f3 hy d0 d1 d2 d3 d4 d5 h0 h1 h2 h3 h4 h5)|(refine(OP.out _ _ _ _ C2.out.drew.i.item (SLT.out _ C2.out.drew.f)).mono ?_;rintro e3 w3 ⟨yv,rfl,hy,f3⟩;obtain⟨A1,c1,A2,c2,A3,c3,rfl⟩:=hy.form;have C3:=hid (C2.out.go (z01 f3));have F3:=hid (z2g (z01 f3));have V3:=hid (V2.out.fr (z01 f3) (by simp));have y7:=five V3.out;have z7:=z10 V3.out;have HY:=hid (hy.less (show B0≤_ from C2.out.d.bz));obtain⟨k0,k1,k2,k3,k4⟩:=five C3.out.b;have k5:=(C3.out.d).three.2.2;clear f3 hy d0 d1 d2 d3 d4 d5 h0 h1 h2 h3 h4 h5))))
  all_goals
   go_wp2
   go_meet
   case rel=>first|with_reducible exact⟨rfl,rfl,z8t.new HY.out F3.out⟩|exact⟨rfl,rfl,z8t.put HY.out F3.out (by simp) V3.out⟩
 clear d0 d1 d2 d3 d4 d5 h0 h1 h2 h3 h4 h5
 obtain⟨rfl,rfl,gb,A1,c1,A2,c2,A3,c3,rfl,hgb,hw,hy,hf⟩:=hcut
 have HY:=hid hy
 have VB:=hid hw
 have C4:=hid (C1.out.go hf)
 have hgz:w.heap.size < gb:=by have:=C1.out.f.size;simp at hgb;have:=C1.out.gx;omega
 clear hw hy hf hgb
 obtain⟨m0,m1,m2,m3,m4⟩:=five VB.out
 go_upto_region 8 with fail
 go_region_held3 (fun wx=>wx.cell? ⟨gb,0,none⟩=some (.int .i64 y.kind)∧wx.cell? ⟨gb,1,none⟩=some (.string y.text)∧wx.cell? ⟨gb,2,none⟩=some (.slice A1 y.list.length c1)∧wx.cell? ⟨gb,3,none⟩=some (.slice A2 y.pairs.length c2)∧wx.cell? ⟨gb,4,none⟩=some (.slice A3 y.scores.length c3)) (go_keep) ((first|(go_at_call 171;refine(z0j _ _).mono ?_;rintro e5 w5 ⟨rfl,f5⟩;have C5:=hid (C4.out.go (z01 f5));have VB5:=hid (VB.out.fr (z01 f5) (by simp));have HY5:=hid (HY.out.go (z01 f5));clear f5 m0 m1 m2 m3 m4;obtain⟨m0,m1,m2,m3,m4⟩:=five VB5.out)|(go_at_call 170;refine(CH.out _ _ _ C5.out.d HY5.out (z1f.bare _ _ _ _ _)).mono ?_;rintro e6 w6 ⟨u,rfl,hu,f6,hd⟩;obtain⟨R,rc,rfl⟩:=hu.form;have VB6:=hid (VB5.out.fr f6 (fun hm=>by have:=(H.out.low _ hm).2;omega));have Q6:=hid (C5.out.q.fr f6 (fun hm=>by have:=(H.out.low _ hm).2;omega));have HU:=hid hu;have HD:=hid hd;have F6:=hid (C5.out.f.up.trans f6);clear f6 hu hd m0 m1 m2 m3 m4;obtain⟨m0,m1,m2,m3,m4⟩:=five VB6.out;obtain⟨y0,y1,y2,y3⟩:=four Q6.out;obtain⟨z0,z1,z2,z3⟩:=z0w Q6.out;have hgz1:¬gb=w.heap.size:=(by omega);have hgz2:¬w.heap.size=gb:=(by omega))))
 obtain⟨sp,pr⟩:=pp
 go_wp2
 refine bodyPost_ret (v:=.agg #[.int .i64 pr.kind,.string pr.text,.int .i64 pr.n,.slice R pr.list.length rc]) (by simp[results,Tryz.results131,go_sem,y0,y1,y2,y3]) rfl ?_
 exact ChD.fin4 HU.out F6.out Q6.out hbz HD.out
theorem zvr(g B0:Nat)(sv:Value)(now:Int)(lv:Value)(l:List ByteArray)(s:List Ent)(c0:ByteArray)(w:World)(ok:z1m s)(hn:2≤l.length)(h12:l.length≤11)(hz:∀t∈l,t.size≤60)(h:Dr g B0 sv now lv l s w) :
  Calls prog 132 #[.pointer (some ⟨g,0,none⟩),.string ⟨#[104,100,101,108]⟩] w (ChD g B0 B0 sv now lv l (doC .hdel s now (c0 :: l)) w):=by
 have hr:=ok.rise
 have hs16:=ok.le
 have DI:=zDI hr hs16 h
 have LS:=hid (z0a (z07 ok) now (wd l 0)).item
 have hzw:∀i,(wd l i).size≤60:=z0s hz
 have EP:doC .hdel s now (c0 :: l)=fin s now (wd l 0) (z9j (z00 s now (wd l 0)).item (l.drop 1)) (z00 s now (wd l 0)).til true false (z02 4 (z00 s now (wd l 0)).item) (z0h (zdj (z00 s now (wd l 0)).item (l.drop 1))):=rfl
 have SY:=hid (show(z9j (z00 s now (wd l 0)).item (l.drop 1)).Small from zjd _ _)
 have htl:(l.drop 1).length=l.length - 1:=by rw[List.length_drop]
 have OP:=hid (fun W u A c (k:z0q W W.heap.size u (z00 s now (wd l 0)).item) (q:Sl W W.heap.size 1 (.slice A (l.length - 1) c) (l.length - 1) (z03 (l.drop 1)))=>(show Calls prog 196 #[u,.slice A (l.length - 1) c] W (z4k (zdj (z00 s now (wd l 0)).item (l.drop 1)) (z02 4 (z00 s now (wd l 0)).item) (z9j (z00 s now (wd l 0)).item (l.drop 1)) W) from by
  rw[←htl] at q ⊢
  exact zay (z00 s now (wd l 0)).item u (l.drop 1) A c W W.heap.size LS.out (Nat.le_refl _) k (by omega) q))
 clear htl
 have CH:=zCH g B0 sv now lv l s w (z9j (z00 s now (wd l 0)).item (l.drop 1)) (z0h (zdj (z00 s now (wd l 0)).item (l.drop 1))) (z02 4 (z00 s now (wd l 0)).item) ok (by omega) SY
 rw[EP]
 clear EP SY
 have H:=hid h
 have hlt:=h.lt
 have hbz:=h.bz
 obtain⟨SA,sc,rfl⟩:=h.sform
 obtain⟨LA,lc,rfl⟩:=h.lform
 obtain⟨b,off,rfl,hb,hc,hm,hat⟩:=h.word (by omega)
 have HAT:=hid hat
 have DG:=hid (fun W (hW:Fr [] w W)=>(h.go hW).three)
 unfold maxLen at hm
 clear h hr hat hzw ok
 generalize fin s now (wd l 0) (z9j (z00 s now (wd l 0)).item (l.drop 1)) (z00 s now (wd l 0)).til true false (z02 4 (z00 s now (wd l 0)).item) (z0h (zdj (z00 s now (wd l 0)).item (l.drop 1)))=pp at *
 generalize z9j (z00 s now (wd l 0)).item (l.drop 1)=y at *
 generalize zdj (z00 s now (wd l 0)).item (l.drop 1)=nn at *
 generalize z02 4 (z00 s now (wd l 0)).item=cc at *
 generalize (z00 s now (wd l 0)).item=x at *
 have sx1:(1:Int)≤(l.length:Int):=by omega
 have sx2:(l.length:Int)≤(lc:Int):=by omega
 have sx3:¬lc=1:=by omega
 have sx4:(1:Int)≤(lc:Int):=by omega
 have SLT:=hid (fun W (hW:Fr [] w W)=>zah ((H.out.go hW).l.more (H.out.go hW).bz) (by omega) sx3)
 have F0:=zF w
 have Q0:=zQ w
 obtain⟨d0,d1,d2⟩:=DG.out _ F0.out
 have dw:=F0.out.cell (HAT.out 0 (by omega)) (by simp)
 rw[Nat.add_zero] at dw
 go_enter Tryz.func132,Tryz.ntmps132
 go_wp2_with fail
 refine(DI.out _ F0.out).mono ?_
 rintro e1 w1 ⟨xv,rfl,hi,f1⟩
 have F1:=hid (F0.out.trans f1)
 have Q1:=hid (Q0.out.fr f1 (by simp))
 have HI:=hid hi
 obtain⟨X1,x1,X2,x2,X3,x3,rfl⟩:=hi.form
 have hz1:=f1.size
 simp at hz1
 clear f1 hi d0 d1 d2 dw
 have C1:=zC1 Q1 HI H F1
 have C2:=hid (C1.out.go ((Fr.refl [] _).alloc (.cells #[.int .i64 0,.string ⟨#[]⟩,.slice none 0 0,.slice none 0 0,.slice none 0 0] 43)))
 obtain⟨d0,d1,d2,d3,d4⟩:=five C1.out.b
 have d5:=(C1.out.d).three.2.2
 obtain⟨h0,h1,h2,h3,h4⟩:=five C2.out.b
 have h5:=(C2.out.d).three.2.2
 have V2:=hid (z3s w1 (.cells #[.int .i64 x.kind,.string x.text,.slice X1 x.list.length x1,.slice X2 x.pairs.length x2,.slice X3 x.scores.length x3] 43) 43 [.int .i64 0,.string ⟨#[]⟩,.slice none 0 0,.slice none 0 0,.slice none 0 0])
 have hb1:¬g=w1.heap.size+1:=by have:=C1.out.d.lt;simp at this;omega
 have hb2:¬w1.heap.size+1=g:=by have:=C1.out.d.lt;simp at this;omega
 have hb3:¬b=w1.heap.size+1:=by omega
 have hb4:¬w1.heap.size+1=b:=by omega
 go_upto_region 15 with fail
 go_cut [13,14,15] (fun pb pn pe wx=>pn=.int .i64 nn∧pe=.int .i64 cc∧z8t B0 y (w1.alloc (.cells #[.int .i64 x.kind,.string x.text,.slice X1 x.list.length x1,.slice X2 x.pairs.length x2,.slice X3 x.scores.length x3] 43)) pb wx)
 case first=>
  go_region_held3 (fun wx=>wx.cell? ⟨w1.heap.size,0,none⟩=some (.int .i64 x.kind)∧wx.cell? ⟨w1.heap.size,1,none⟩=some (.string x.text)∧wx.cell? ⟨w1.heap.size,2,none⟩=some (.slice X1 x.list.length x1)∧wx.cell? ⟨w1.heap.size,3,none⟩=some (.slice X2 x.pairs.length x2)∧wx.cell? ⟨w1.heap.size,4,none⟩=some (.slice X3 x.scores.length x3)∧wx.cell? ⟨g,2,none⟩=some (.slice (some ⟨b,off,none⟩) l.length lc)) (go_keep) ((first|fail|(go_at_call 196;first|(refine(OP.out _ _ _ _ C1.out.drew.i.item (SLT.out _ C1.out.drew.f)).mono ?_;rintro e3 w3 ⟨yv,rfl,hy,f3⟩;obtain⟨A1,c1,A2,c2,A3,c3,rfl⟩:=hy.form;have C3:=hid (C1.out.go (z01 f3));have F3:=hid (z01 f3);have HY:=hid (hy.less (show B0≤_ from C1.out.d.bz));obtain⟨k0,k1,k2,k3,k4⟩:=five C3.out.b;have k5:=(C3.out.d).three.2.2;clear f3 hy d0 d1 d2 d3 d4 d5 h0 h1 h2 h3 h4 h5)|(refine(OP.out _ _ _ _ C2.out.drew.i.item (SLT.out _ C2.out.drew.f)).mono ?_;rintro e3 w3 ⟨yv,rfl,hy,f3⟩;obtain⟨A1,c1,A2,c2,A3,c3,rfl⟩:=hy.form;have C3:=hid (C2.out.go (z01 f3));have F3:=hid (z2g (z01 f3));have V3:=hid (V2.out.fr (z01 f3) (by simp));have y7:=five V3.out;have z7:=z10 V3.out;have HY:=hid (hy.less (show B0≤_ from C2.out.d.bz));obtain⟨k0,k1,k2,k3,k4⟩:=five C3.out.b;have k5:=(C3.out.d).three.2.2;clear f3 hy d0 d1 d2 d3 d4 d5 h0 h1 h2 h3 h4 h5))))
  all_goals
   go_wp2
   go_meet
   case rel=>first|with_reducible exact⟨rfl,rfl,z8t.new HY.out F3.out⟩|exact⟨rfl,rfl,z8t.put HY.out F3.out (by simp) V3.out⟩
 clear d0 d1 d2 d3 d4 d5 h0 h1 h2 h3 h4 h5
 obtain⟨rfl,rfl,gb,A1,c1,A2,c2,A3,c3,rfl,hgb,hw,hy,hf⟩:=hcut
 have HY:=hid hy
 have VB:=hid hw
 have C4:=hid (C1.out.go hf)
 have hgz:w.heap.size < gb:=by have:=C1.out.f.size;simp at hgb;have:=C1.out.gx;omega
 clear hw hy hf hgb
 obtain⟨m0,m1,m2,m3,m4⟩:=five VB.out
 go_upto_region 16 with fail
 go_region_held3 (fun wx=>wx.cell? ⟨gb,0,none⟩=some (.int .i64 y.kind)∧wx.cell? ⟨gb,1,none⟩=some (.string y.text)∧wx.cell? ⟨gb,2,none⟩=some (.slice A1 y.list.length c1)∧wx.cell? ⟨gb,3,none⟩=some (.slice A2 y.pairs.length c2)∧wx.cell? ⟨gb,4,none⟩=some (.slice A3 y.scores.length c3)) (go_keep) ((first|(go_at_call 171;refine(z0j _ _).mono ?_;rintro e5 w5 ⟨rfl,f5⟩;have C5:=hid (C4.out.go (z01 f5));have VB5:=hid (VB.out.fr (z01 f5) (by simp));have HY5:=hid (HY.out.go (z01 f5));clear f5 m0 m1 m2 m3 m4;obtain⟨m0,m1,m2,m3,m4⟩:=five VB5.out)|(go_at_call 170;refine(CH.out _ _ _ C5.out.d HY5.out (z1f.bare _ _ _ _ _)).mono ?_;rintro e6 w6 ⟨u,rfl,hu,f6,hd⟩;obtain⟨R,rc,rfl⟩:=hu.form;have VB6:=hid (VB5.out.fr f6 (fun hm=>by have:=(H.out.low _ hm).2;omega));have Q6:=hid (C5.out.q.fr f6 (fun hm=>by have:=(H.out.low _ hm).2;omega));have HU:=hid hu;have HD:=hid hd;have F6:=hid (C5.out.f.up.trans f6);clear f6 hu hd m0 m1 m2 m3 m4;obtain⟨m0,m1,m2,m3,m4⟩:=five VB6.out;obtain⟨y0,y1,y2,y3⟩:=four Q6.out;obtain⟨z0,z1,z2,z3⟩:=z0w Q6.out;have hgz1:¬gb=w.heap.size:=(by omega);have hgz2:¬w.heap.size=gb:=(by omega))))
 obtain⟨sp,pr⟩:=pp
 go_wp2
 refine bodyPost_ret (v:=.agg #[.int .i64 pr.kind,.string pr.text,.int .i64 pr.n,.slice R pr.list.length rc]) (by simp[results,Tryz.results132,go_sem,y0,y1,y2,y3]) rfl ?_
 exact ChD.fin4 HU.out F6.out Q6.out hbz HD.out
theorem zvc(g B0:Nat)(sv:Value)(now:Int)(lv:Value)(l:List ByteArray)(s:List Ent)(c0:ByteArray)(w:World)(ok:z1m s)(hn:2≤l.length)(h12:l.length≤11)(hz:∀t∈l,t.size≤60)(h:Dr g B0 sv now lv l s w) :
  Calls prog 133 #[.pointer (some ⟨g,0,none⟩),.string ⟨#[122,114,101,109]⟩] w (ChD g B0 B0 sv now lv l (doC .zrem s now (c0 :: l)) w):=by
 have hr:=ok.rise
 have hs16:=ok.le
 have DI:=zDI hr hs16 h
 have LS:=hid (z0a (z07 ok) now (wd l 0)).item
 have hzw:∀i,(wd l i).size≤60:=z0s hz
 have EP:doC .zrem s now (c0 :: l)=fin s now (wd l 0) (z61 (z00 s now (wd l 0)).item (l.drop 1)) (z00 s now (wd l 0)).til true false (z02 5 (z00 s now (wd l 0)).item) (z0h (z9y (z00 s now (wd l 0)).item (l.drop 1))):=rfl
 have SY:=hid (show(z61 (z00 s now (wd l 0)).item (l.drop 1)).Small from zga _ _)
 have htl:(l.drop 1).length=l.length - 1:=by rw[List.length_drop]
 have OP:=hid (fun W u A c (k:z0q W W.heap.size u (z00 s now (wd l 0)).item) (q:Sl W W.heap.size 1 (.slice A (l.length - 1) c) (l.length - 1) (z03 (l.drop 1)))=>(show Calls prog 198 #[u,.slice A (l.length - 1) c] W (z4k (z9y (z00 s now (wd l 0)).item (l.drop 1)) (z02 5 (z00 s now (wd l 0)).item) (z61 (z00 s now (wd l 0)).item (l.drop 1)) W) from by
  rw[←htl] at q ⊢
  exact zfg (z00 s now (wd l 0)).item u (l.drop 1) A c W W.heap.size LS.out (Nat.le_refl _) k (by omega) q))
 clear htl
 have CH:=zCH g B0 sv now lv l s w (z61 (z00 s now (wd l 0)).item (l.drop 1)) (z0h (z9y (z00 s now (wd l 0)).item (l.drop 1))) (z02 5 (z00 s now (wd l 0)).item) ok (by omega) SY
 rw[EP]
 clear EP SY
 have H:=hid h
 have hlt:=h.lt
 have hbz:=h.bz
 obtain⟨SA,sc,rfl⟩:=h.sform
 obtain⟨LA,lc,rfl⟩:=h.lform
 obtain⟨b,off,rfl,hb,hc,hm,hat⟩:=h.word (by omega)
 have HAT:=hid hat
 have DG:=hid (fun W (hW:Fr [] w W)=>(h.go hW).three)
 unfold maxLen at hm
 clear h hr hat hzw ok
 generalize fin s now (wd l 0) (z61 (z00 s now (wd l 0)).item (l.drop 1)) (z00 s now (wd l 0)).til true false (z02 5 (z00 s now (wd l 0)).item) (z0h (z9y (z00 s now (wd l 0)).item (l.drop 1)))=pp at *
 generalize z61 (z00 s now (wd l 0)).item (l.drop 1)=y at *
 generalize z9y (z00 s now (wd l 0)).item (l.drop 1)=nn at *
 generalize z02 5 (z00 s now (wd l 0)).item=cc at *
 generalize (z00 s now (wd l 0)).item=x at *
 have sx1:(1:Int)≤(l.length:Int):=by omega
 have sx2:(l.length:Int)≤(lc:Int):=by omega
 have sx3:¬lc=1:=by omega
 have sx4:(1:Int)≤(lc:Int):=by omega
 have SLT:=hid (fun W (hW:Fr [] w W)=>zah ((H.out.go hW).l.more (H.out.go hW).bz) (by omega) sx3)
 have F0:=zF w
 have Q0:=zQ w
 obtain⟨d0,d1,d2⟩:=DG.out _ F0.out
 have dw:=F0.out.cell (HAT.out 0 (by omega)) (by simp)
 rw[Nat.add_zero] at dw
 go_enter Tryz.func133,Tryz.ntmps133
 go_wp2_with fail
 refine(DI.out _ F0.out).mono ?_
 rintro e1 w1 ⟨xv,rfl,hi,f1⟩
 have F1:=hid (F0.out.trans f1)
 have Q1:=hid (Q0.out.fr f1 (by simp))
 have HI:=hid hi
 obtain⟨X1,x1,X2,x2,X3,x3,rfl⟩:=hi.form
 have hz1:=f1.size
 simp at hz1
 clear f1 hi d0 d1 d2 dw
 have C1:=zC1 Q1 HI H F1
 have C2:=hid (C1.out.go ((Fr.refl [] _).alloc (.cells #[.int .i64 0,.string ⟨#[]⟩,.slice none 0 0,.slice none 0 0,.slice none 0 0] 43)))
 obtain⟨d0,d1,d2,d3,d4⟩:=five C1.out.b
 have d5:=(C1.out.d).three.2.2
 obtain⟨h0,h1,h2,h3,h4⟩:=five C2.out.b
 have h5:=(C2.out.d).three.2.2
 have V2:=hid (z3s w1 (.cells #[.int .i64 x.kind,.string x.text,.slice X1 x.list.length x1,.slice X2 x.pairs.length x2,.slice X3 x.scores.length x3] 43) 43 [.int .i64 0,.string ⟨#[]⟩,.slice none 0 0,.slice none 0 0,.slice none 0 0])
 have hb1:¬g=w1.heap.size+1:=by have:=C1.out.d.lt;simp at this;omega
 have hb2:¬w1.heap.size+1=g:=by have:=C1.out.d.lt;simp at this;omega
 have hb3:¬b=w1.heap.size+1:=by omega
 have hb4:¬w1.heap.size+1=b:=by omega
 go_upto_region 12 with fail
 go_cut [11,12,13] (fun pb pn pe wx=>pn=.int .i64 nn∧pe=.int .i64 cc∧z8t B0 y (w1.alloc (.cells #[.int .i64 x.kind,.string x.text,.slice X1 x.list.length x1,.slice X2 x.pairs.length x2,.slice X3 x.scores.length x3] 43)) pb wx)
 case first=>
  go_region_held3 (fun wx=>wx.cell? ⟨w1.heap.size,0,none⟩=some (.int .i64 x.kind)∧wx.cell? ⟨w1.heap.size,1,none⟩=some (.string x.text)∧wx.cell? ⟨w1.heap.size,2,none⟩=some (.slice X1 x.list.length x1)∧wx.cell? ⟨w1.heap.size,3,none⟩=some (.slice X2 x.pairs.length x2)∧wx.cell? ⟨w1.heap.size,4,none⟩=some (.slice X3 x.scores.length x3)∧wx.cell? ⟨g,2,none⟩=some (.slice (some ⟨b,off,none⟩) l.length lc)) (go_keep) ((first|fail|(go_at_call 198;first|(refine(OP.out _ _ _ _ C1.out.drew.i.item (SLT.out _ C1.out.drew.f)).mono ?_;rintro e3 w3 ⟨yv,rfl,hy,f3⟩;obtain⟨A1,c1,A2,c2,A3,c3,rfl⟩:=hy.form;have C3:=hid (C1.out.go (z01 f3));have F3:=hid (z01 f3);have HY:=hid (hy.less (show B0≤_ from C1.out.d.bz));obtain⟨k0,k1,k2,k3,k4⟩:=five C3.out.b;have k5:=(C3.out.d).three.2.2;clear f3 hy d0 d1 d2 d3 d4 d5 h0 h1 h2 h3 h4 h5)|(refine(OP.out _ _ _ _ C2.out.drew.i.item (SLT.out _ C2.out.drew.f)).mono ?_;rintro e3 w3 ⟨yv,rfl,hy,f3⟩;obtain⟨A1,c1,A2,c2,A3,c3,rfl⟩:=hy.form;have C3:=hid (C2.out.go (z01 f3));have F3:=hid (z2g (z01 f3));have V3:=hid (V2.out.fr (z01 f3) (by simp));have y7:=five V3.out;have z7:=z10 V3.out;have HY:=hid (hy.less (show B0≤_ from C2.out.d.bz));obtain⟨k0,k1,k2,k3,k4⟩:=five C3.out.b;have k5:=(C3.out.d).three.2.2;clear f3 hy d0 d1 d2 d3 d4 d5 h0 h1 h2 h3 h4 h5))))
  all_goals
   go_wp2
   go_meet
   case rel=>first|with_reducible exact⟨rfl,rfl,z8t.new HY.out F3.out⟩|exact⟨rfl,rfl,z8t.put HY.out F3.out (by simp) V3.out⟩
 clear d0 d1 d2 d3 d4 d5 h0 h1 h2 h3 h4 h5
 obtain⟨rfl,rfl,gb,A1,c1,A2,c2,A3,c3,rfl,hgb,hw,hy,hf⟩:=hcut
 have HY:=hid hy
 have VB:=hid hw
 have C4:=hid (C1.out.go hf)
 have hgz:w.heap.size < gb:=by have:=C1.out.f.size;simp at hgb;have:=C1.out.gx;omega
 clear hw hy hf hgb
 obtain⟨m0,m1,m2,m3,m4⟩:=five VB.out
 go_upto_region 13 with fail
 go_region_held3 (fun wx=>wx.cell? ⟨gb,0,none⟩=some (.int .i64 y.kind)∧wx.cell? ⟨gb,1,none⟩=some (.string y.text)∧wx.cell? ⟨gb,2,none⟩=some (.slice A1 y.list.length c1)∧wx.cell? ⟨gb,3,none⟩=some (.slice A2 y.pairs.length c2)∧wx.cell? ⟨gb,4,none⟩=some (.slice A3 y.scores.length c3)) (go_keep) ((first|(go_at_call 171;refine(z0j _ _).mono ?_;rintro e5 w5 ⟨rfl,f5⟩;have C5:=hid (C4.out.go (z01 f5));have VB5:=hid (VB.out.fr (z01 f5) (by simp));have HY5:=hid (HY.out.go (z01 f5));clear f5 m0 m1 m2 m3 m4;obtain⟨m0,m1,m2,m3,m4⟩:=five VB5.out)|(go_at_call 170;refine(CH.out _ _ _ C5.out.d HY5.out (z1f.bare _ _ _ _ _)).mono ?_;rintro e6 w6 ⟨u,rfl,hu,f6,hd⟩;obtain⟨R,rc,rfl⟩:=hu.form;have VB6:=hid (VB5.out.fr f6 (fun hm=>by have:=(H.out.low _ hm).2;omega));have Q6:=hid (C5.out.q.fr f6 (fun hm=>by have:=(H.out.low _ hm).2;omega));have HU:=hid hu;have HD:=hid hd;have F6:=hid (C5.out.f.up.trans f6);clear f6 hu hd m0 m1 m2 m3 m4;obtain⟨m0,m1,m2,m3,m4⟩:=five VB6.out;obtain⟨y0,y1,y2,y3⟩:=four Q6.out;obtain⟨z0,z1,z2,z3⟩:=z0w Q6.out;have hgz1:¬gb=w.heap.size:=(by omega);have hgz2:¬w.heap.size=gb:=(by omega))))
 obtain⟨sp,pr⟩:=pp
 go_wp2
 refine bodyPost_ret (v:=.agg #[.int .i64 pr.kind,.string pr.text,.int .i64 pr.n,.slice R pr.list.length rc]) (by simp[results,Tryz.results133,go_sem,y0,y1,y2,y3]) rfl ?_
 exact ChD.fin4 HU.out F6.out Q6.out hbz HD.out
end Go.Proofs.YtamgdmiopinidaaGreatDoor
