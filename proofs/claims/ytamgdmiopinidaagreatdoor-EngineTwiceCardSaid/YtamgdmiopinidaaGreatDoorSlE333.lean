/- Contracts that the proof of E3 uses. No condition beyond those in each theorem. -/
import Derived.Test.YtamgdmiopinidaaGreatDoorSlE331
import Derived.Test.YtamgdmiopinidaaGreatDoorSlE332
set_option linter.unusedVariables false
set_option linter.unusedSimpArgs false
set_option maxHeartbeats 8000000
set_option maxRecDepth 100000
namespace Go.Proofs.YtamgdmiopinidaaGreatDoor
open Lib (hid)
open Go.Proofs.Tryz (prog)
open Go.RowKit
theorem zss(x:Itm)(f t:Int):(z65 x f t).length≤1000:=by
 unfold z65
 split
 ·rename_i h
  have h24:=(z32 h).2
  have:=z5y (x.scores.map (·.2)).length f t
  rw[z2j]
  rw[List.length_map] at this ⊢
  omega
 ·simp
theorem zq9(x:Itm)(f t:Int):(z48 x f t).length≤1000:=by
 unfold z48
 split
 ·rename_i h
  have h24:=(z32 h).2
  have:=List.length_filter_le (fun s:Int×ByteArray=>decide (f≤s.1)&&decide (s.1≤t)) x.scores
  unfold z6l
  rw[List.length_map]
  omega
 ·simp
theorem zw6(g B0:Nat)(sv:Value)(now:Int)(lv:Value)(l:List ByteArray)(s:List Ent)(c0:ByteArray)(w:World)(ok:z1m s)(hn:2≤l.length)(h12:l.length≤11)(hz:∀t∈l,t.size≤60)(h:Dr g B0 sv now lv l s w) :
  Calls prog 132 #[.pointer (some ⟨g,0,none⟩),.string ⟨#[104,103,101,116]⟩] w (ChD g B0 B0 sv now lv l (doC .hget s now (c0 :: l)) w):=by
 have hr:=ok.rise
 have hs16:=ok.le
 have DI:=zDI hr hs16 h
 have LS:=hid (z0a (z07 ok) now (wd l 0)).item
 have hzw:∀i,(wd l i).size≤60:=z0s hz
 have EP:doC .hget s now (c0 :: l)=(s,orR (z1b (zr5 (z00 s now (wd l 0)).item (wd l 1))) (z5k (z00 s now (wd l 0)).item (wd l 1)) true):=by
  show fin s now (wd l 0) (z00 s now (wd l 0)).item (z00 s now (wd l 0)).til false true (z5k (z00 s now (wd l 0)).item (wd l 1)) (z1b (zr5 (z00 s now (wd l 0)).item (wd l 1)))=_
  exact z23 _ _ _ _ _ _ _ _
 have OP:=hid (fun W u (k:z0q W W.heap.size u (z00 s now (wd l 0)).item)=>zi7 (z00 s now (wd l 0)).item u (wd l 1) W W.heap.size LS.out (Nat.le_refl _) k)
 rw[EP]
 clear EP
 have H:=hid h
 have hlt:=h.lt
 have hbz:=h.bz
 obtain⟨SA,sc,rfl⟩:=h.sform
 obtain⟨LA,lc,rfl⟩:=h.lform
 obtain⟨b,off,rfl,hb,hc,hm,hat⟩:=h.word (by omega)
 have HAT:=hid hat
 have DG:=hid (fun W (hW:Fr [] w W)=>(h.go hW).three)
 unfold maxLen at hm
 clear h hr hat hzw ok
 generalize zr5 (z00 s now (wd l 0)).item (wd l 1)=nn at *
 generalize z5k (z00 s now (wd l 0)).item (wd l 1)=cc at *
 generalize (z00 s now (wd l 0)).item=x at *
 have ix1:(1:Int) < (l.length:Int):=by omega
 have F0:=zF w
 have Q0:=zQ w
 obtain⟨d0,d1,d2⟩:=DG.out _ F0.out
 have dw:=F0.out.cell (HAT.out 0 (by omega)) (by simp)
 rw[Nat.add_zero] at dw
 go_enter Tryz.func132,Tryz.ntmps132
 go_wp2_with fail
 refine(DI.out _ F0.out).mono ?_
 rintro e1 w1 ⟨xv,rfl,hi,f1⟩
 have F1:=hid (F0.out.trans f1)
 have Q1:=hid (Q0.out.fr f1 (by simp))
 have HI:=hid hi
 obtain⟨X1,x1,X2,x2,X3,x3,rfl⟩:=hi.form
 have hz1:=f1.size
 simp at hz1
 clear f1 hi d0 d1 d2 dw
 have C1:=zC1 Q1 HI H F1
 have CC:=hid C1.out.drew
 obtain⟨d0,d1,d2,d3,d4⟩:=five CC.out.b
 have d5:=(CC.out.d).three.2.2
 have d6:=CC.out.f.cell (HAT.out 1 (by omega)) (by simp)
 go_upto_region 12 with fail
 go_region_held3 (fun wx=>wx.cell? ⟨w1.heap.size,0,none⟩=some (.int .i64 x.kind)∧wx.cell? ⟨w1.heap.size,1,none⟩=some (.string x.text)∧wx.cell? ⟨w1.heap.size,2,none⟩=some (.slice X1 x.list.length x1)∧wx.cell? ⟨w1.heap.size,3,none⟩=some (.slice X2 x.pairs.length x2)∧wx.cell? ⟨w1.heap.size,4,none⟩=some (.slice X3 x.scores.length x3)∧wx.cell? ⟨g,2,none⟩=some (.slice (some ⟨b,off,none⟩) l.length lc)∧wx.cell? ⟨b,off+1,none⟩=some (.string (wd l 1))) (go_keep) ((first|(go_at_call 195;(first|(with_reducible refine(OP.out _ _ CC.out.i.item).mono ?_));rintro eq wq ⟨rfl,fq⟩;have CN:=hid (CC.out.go fq);clear CC;have CC:=CN;clear CN fq d0 d1 d2 d3 d4 d5 d6;obtain⟨d0,d1,d2,d3,d4⟩:=five CC.out.b;have d5:=(CC.out.d).three.2.2;have d6:=CC.out.f.cell (HAT.out 1 (by omega)) (by simp))))
 clear d0 d1 d2 d3 d4 d5 d6
 go_wp2_with fail
 refine(z7t _ _).mono ?_
 rintro e7 w7 ⟨rfl,f7⟩
 have C7:=hid (CC.out.go f7)
 clear f7
 go_wp2_with fail
 refine(z4r (z1b nn) _ cc true (w.heap.size+1) _ (z1f.bare _ _ _ _ _)).mono ?_
 rintro e8 w8 ⟨rfl,f8⟩
 have C8:=hid (C7.out.go f8)
 have HV:=hid (show z1f w8 (w.heap.size+1) (orV (.agg #[.int .i64 4,.string nn,.int .i64 0,.slice none 0 0]) cc true) (orR (z1b nn) cc true) from z8n (z1f.bare _ _ _ _ _) cc true)
 clear f8
 obtain⟨S,sc9,hS⟩:=HV.out.form
 have HS9:=hid hS
 clear hS
 rw[HS9.out]
 have HV9:=hid (show z1f _ _ (.agg #[.int .i64 (orR (z1b nn) cc true).kind,.string (orR (z1b nn) cc true).text,.int .i64 (orR (z1b nn) cc true).n,.slice S (orR (z1b nn) cc true).list.length sc9]) (orR (z1b nn) cc true) from by have:=HV.out;rw[HS9.out] at this;exact this)
 generalize orR (z1b nn) cc true=q9 at *
 obtain⟨y0,y1,y2,y3⟩:=four C8.out.q
 obtain⟨z0,z1,z2,z3⟩:=z0w C8.out.q
 go_wp2
 refine bodyPost_ret (v:=.agg #[.int .i64 q9.kind,.string q9.text,.int .i64 q9.n,.slice S q9.list.length sc9]) (by simp[results,Tryz.results132,go_sem,y0,y1,y2,y3]) rfl ?_
 exact ChD.fin4 HV9.out C8.out.f.up C8.out.q hbz (fun _=>⟨_,C8.out.d⟩)
theorem zo1(g B0:Nat)(sv:Value)(now:Int)(lv:Value)(l:List ByteArray)(s:List Ent)(c0:ByteArray)(w:World)(ok:z1m s)(hn:2≤l.length)(h12:l.length≤11)(hz:∀t∈l,t.size≤60)(h:Dr g B0 sv now lv l s w) :
  Calls prog 133 #[.pointer (some ⟨g,0,none⟩),.string ⟨#[122,115,99,111,114,101]⟩] w (ChD g B0 B0 sv now lv l (doC .zscore s now (c0 :: l)) w):=by
 have hr:=ok.rise
 have hs16:=ok.le
 have DI:=zDI hr hs16 h
 have LS:=hid (z0a (z07 ok) now (wd l 0)).item
 have hzw:∀i,(wd l i).size≤60:=z0s hz
 have EP:doC .zscore s now (c0 :: l)=(s,orR (z0h (zqx (z00 s now (wd l 0)).item (wd l 1))) (z19 (z00 s now (wd l 0)).item (wd l 1)) true):=by
  show fin s now (wd l 0) (z00 s now (wd l 0)).item (z00 s now (wd l 0)).til false true (z19 (z00 s now (wd l 0)).item (wd l 1)) (z0h (zqx (z00 s now (wd l 0)).item (wd l 1)))=_
  exact z23 _ _ _ _ _ _ _ _
 have OP:=hid (fun W u (k:z0q W W.heap.size u (z00 s now (wd l 0)).item)=>zd0 (z00 s now (wd l 0)).item u (wd l 1) W W.heap.size LS.out (Nat.le_refl _) k)
 rw[EP]
 clear EP
 have H:=hid h
 have hlt:=h.lt
 have hbz:=h.bz
 obtain⟨SA,sc,rfl⟩:=h.sform
 obtain⟨LA,lc,rfl⟩:=h.lform
 obtain⟨b,off,rfl,hb,hc,hm,hat⟩:=h.word (by omega)
 have HAT:=hid hat
 have DG:=hid (fun W (hW:Fr [] w W)=>(h.go hW).three)
 unfold maxLen at hm
 clear h hr hat hzw ok
 generalize zqx (z00 s now (wd l 0)).item (wd l 1)=nn at *
 generalize z19 (z00 s now (wd l 0)).item (wd l 1)=cc at *
 generalize (z00 s now (wd l 0)).item=x at *
 have ix1:(1:Int) < (l.length:Int):=by omega
 have F0:=zF w
 have Q0:=zQ w
 obtain⟨d0,d1,d2⟩:=DG.out _ F0.out
 have dw:=F0.out.cell (HAT.out 0 (by omega)) (by simp)
 rw[Nat.add_zero] at dw
 go_enter Tryz.func133,Tryz.ntmps133
 go_wp2_with fail
 refine(DI.out _ F0.out).mono ?_
 rintro e1 w1 ⟨xv,rfl,hi,f1⟩
 have F1:=hid (F0.out.trans f1)
 have Q1:=hid (Q0.out.fr f1 (by simp))
 have HI:=hid hi
 obtain⟨X1,x1,X2,x2,X3,x3,rfl⟩:=hi.form
 have hz1:=f1.size
 simp at hz1
 clear f1 hi d0 d1 d2 dw
 have C1:=zC1 Q1 HI H F1
 have CC:=hid C1.out.drew
 obtain⟨d0,d1,d2,d3,d4⟩:=five CC.out.b
 have d5:=(CC.out.d).three.2.2
 have d6:=CC.out.f.cell (HAT.out 1 (by omega)) (by simp)
 go_upto_region 15 with fail
 go_region_held3 (fun wx=>wx.cell? ⟨w1.heap.size,0,none⟩=some (.int .i64 x.kind)∧wx.cell? ⟨w1.heap.size,1,none⟩=some (.string x.text)∧wx.cell? ⟨w1.heap.size,2,none⟩=some (.slice X1 x.list.length x1)∧wx.cell? ⟨w1.heap.size,3,none⟩=some (.slice X2 x.pairs.length x2)∧wx.cell? ⟨w1.heap.size,4,none⟩=some (.slice X3 x.scores.length x3)∧wx.cell? ⟨g,2,none⟩=some (.slice (some ⟨b,off,none⟩) l.length lc)∧wx.cell? ⟨b,off+1,none⟩=some (.string (wd l 1))) (go_keep) ((first|(go_at_call 199;(first|(with_reducible refine(OP.out _ _ CC.out.i.item).mono ?_));rintro eq wq ⟨rfl,fq⟩;have CN:=hid (CC.out.go fq);clear CC;have CC:=CN;clear CN fq d0 d1 d2 d3 d4 d5 d6;obtain⟨d0,d1,d2,d3,d4⟩:=five CC.out.b;have d5:=(CC.out.d).three.2.2;have d6:=CC.out.f.cell (HAT.out 1 (by omega)) (by simp))))
 clear d0 d1 d2 d3 d4 d5 d6
 go_wp2_with fail
 refine(z0j _ _).mono ?_
 rintro e7 w7 ⟨rfl,f7⟩
 have C7:=hid (CC.out.go f7)
 clear f7
 go_wp2_with fail
 refine(z4r (z0h nn) _ cc true (w.heap.size+1) _ (z1f.bare _ _ _ _ _)).mono ?_
 rintro e8 w8 ⟨rfl,f8⟩
 have C8:=hid (C7.out.go f8)
 have HV:=hid (show z1f w8 (w.heap.size+1) (orV (.agg #[.int .i64 3,.string ⟨#[]⟩,.int .i64 nn,.slice none 0 0]) cc true) (orR (z0h nn) cc true) from z8n (z1f.bare _ _ _ _ _) cc true)
 clear f8
 obtain⟨S,sc9,hS⟩:=HV.out.form
 have HS9:=hid hS
 clear hS
 rw[HS9.out]
 have HV9:=hid (show z1f _ _ (.agg #[.int .i64 (orR (z0h nn) cc true).kind,.string (orR (z0h nn) cc true).text,.int .i64 (orR (z0h nn) cc true).n,.slice S (orR (z0h nn) cc true).list.length sc9]) (orR (z0h nn) cc true) from by have:=HV.out;rw[HS9.out] at this;exact this)
 generalize orR (z0h nn) cc true=q9 at *
 obtain⟨y0,y1,y2,y3⟩:=four C8.out.q
 obtain⟨z0,z1,z2,z3⟩:=z0w C8.out.q
 go_wp2
 refine bodyPost_ret (v:=.agg #[.int .i64 q9.kind,.string q9.text,.int .i64 q9.n,.slice S q9.list.length sc9]) (by simp[results,Tryz.results133,go_sem,y0,y1,y2,y3]) rfl ?_
 exact ChD.fin4 HV9.out C8.out.f.up C8.out.q hbz (fun _=>⟨_,C8.out.d⟩)
theorem zsl(g B0:Nat)(sv:Value)(now:Int)(lv:Value)(l:List ByteArray)(s:List Ent)(c0:ByteArray)(w:World)(ok:z1m s)(hn:2≤l.length)(h12:l.length≤11)(hz:∀t∈l,t.size≤60)(h:Dr g B0 sv now lv l s w) :
  Calls prog 133 #[.pointer (some ⟨g,0,none⟩),.string ⟨#[122,114,97,110,107]⟩] w (ChD g B0 B0 sv now lv l (doC .zrank s now (c0 :: l)) w):=by
 have hr:=ok.rise
 have hs16:=ok.le
 have DI:=zDI hr hs16 h
 have LS:=hid (z0a (z07 ok) now (wd l 0)).item
 have hzw:∀i,(wd l i).size≤60:=z0s hz
 have EP:doC .zrank s now (c0 :: l)=(s,orR (z0h (z9a (z00 s now (wd l 0)).item (wd l 1))) (z19 (z00 s now (wd l 0)).item (wd l 1)) true):=by
  show fin s now (wd l 0) (z00 s now (wd l 0)).item (z00 s now (wd l 0)).til false true (z19 (z00 s now (wd l 0)).item (wd l 1)) (z0h (z9a (z00 s now (wd l 0)).item (wd l 1)))=_
  exact z23 _ _ _ _ _ _ _ _
 have OP:=hid (fun W u (k:z0q W W.heap.size u (z00 s now (wd l 0)).item)=>z9s (z00 s now (wd l 0)).item u (wd l 1) W W.heap.size LS.out (Nat.le_refl _) k)
 rw[EP]
 clear EP
 have H:=hid h
 have hlt:=h.lt
 have hbz:=h.bz
 obtain⟨SA,sc,rfl⟩:=h.sform
 obtain⟨LA,lc,rfl⟩:=h.lform
 obtain⟨b,off,rfl,hb,hc,hm,hat⟩:=h.word (by omega)
 have HAT:=hid hat
 have DG:=hid (fun W (hW:Fr [] w W)=>(h.go hW).three)
 unfold maxLen at hm
 clear h hr hat hzw ok
 generalize z9a (z00 s now (wd l 0)).item (wd l 1)=nn at *
 generalize z19 (z00 s now (wd l 0)).item (wd l 1)=cc at *
 generalize (z00 s now (wd l 0)).item=x at *
 have ix1:(1:Int) < (l.length:Int):=by omega
 have F0:=zF w
 have Q0:=zQ w
 obtain⟨d0,d1,d2⟩:=DG.out _ F0.out
 have dw:=F0.out.cell (HAT.out 0 (by omega)) (by simp)
 rw[Nat.add_zero] at dw
 go_enter Tryz.func133,Tryz.ntmps133
 go_wp2_with fail
 refine(DI.out _ F0.out).mono ?_
 rintro e1 w1 ⟨xv,rfl,hi,f1⟩
 have F1:=hid (F0.out.trans f1)
 have Q1:=hid (Q0.out.fr f1 (by simp))
 have HI:=hid hi
 obtain⟨X1,x1,X2,x2,X3,x3,rfl⟩:=hi.form
 have hz1:=f1.size
 simp at hz1
 clear f1 hi d0 d1 d2 dw
 have C1:=zC1 Q1 HI H F1
 have CC:=hid C1.out.drew
 obtain⟨d0,d1,d2,d3,d4⟩:=five CC.out.b
 have d5:=(CC.out.d).three.2.2
 have d6:=CC.out.f.cell (HAT.out 1 (by omega)) (by simp)
 go_upto_region 18 with fail
 go_region_held3 (fun wx=>wx.cell? ⟨w1.heap.size,0,none⟩=some (.int .i64 x.kind)∧wx.cell? ⟨w1.heap.size,1,none⟩=some (.string x.text)∧wx.cell? ⟨w1.heap.size,2,none⟩=some (.slice X1 x.list.length x1)∧wx.cell? ⟨w1.heap.size,3,none⟩=some (.slice X2 x.pairs.length x2)∧wx.cell? ⟨w1.heap.size,4,none⟩=some (.slice X3 x.scores.length x3)∧wx.cell? ⟨g,2,none⟩=some (.slice (some ⟨b,off,none⟩) l.length lc)∧wx.cell? ⟨b,off+1,none⟩=some (.string (wd l 1))) (go_keep) ((first|(go_at_call 200;(first|(with_reducible refine(OP.out _ _ CC.out.i.item).mono ?_));rintro eq wq ⟨rfl,fq⟩;have CN:=hid (CC.out.go fq);clear CC;have CC:=CN;clear CN fq d0 d1 d2 d3 d4 d5 d6;obtain⟨d0,d1,d2,d3,d4⟩:=five CC.out.b;have d5:=(CC.out.d).three.2.2;have d6:=CC.out.f.cell (HAT.out 1 (by omega)) (by simp))))
 clear d0 d1 d2 d3 d4 d5 d6
 go_wp2_with fail
 refine(z0j _ _).mono ?_
 rintro e7 w7 ⟨rfl,f7⟩
 have C7:=hid (CC.out.go f7)
 clear f7
 go_wp2_with fail
 refine(z4r (z0h nn) _ cc true (w.heap.size+1) _ (z1f.bare _ _ _ _ _)).mono ?_
 rintro e8 w8 ⟨rfl,f8⟩
 have C8:=hid (C7.out.go f8)
 have HV:=hid (show z1f w8 (w.heap.size+1) (orV (.agg #[.int .i64 3,.string ⟨#[]⟩,.int .i64 nn,.slice none 0 0]) cc true) (orR (z0h nn) cc true) from z8n (z1f.bare _ _ _ _ _) cc true)
 clear f8
 obtain⟨S,sc9,hS⟩:=HV.out.form
 have HS9:=hid hS
 clear hS
 rw[HS9.out]
 have HV9:=hid (show z1f _ _ (.agg #[.int .i64 (orR (z0h nn) cc true).kind,.string (orR (z0h nn) cc true).text,.int .i64 (orR (z0h nn) cc true).n,.slice S (orR (z0h nn) cc true).list.length sc9]) (orR (z0h nn) cc true) from by have:=HV.out;rw[HS9.out] at this;exact this)
 generalize orR (z0h nn) cc true=q9 at *
 obtain⟨y0,y1,y2,y3⟩:=four C8.out.q
 obtain⟨z0,z1,z2,z3⟩:=z0w C8.out.q
 go_wp2
 refine bodyPost_ret (v:=.agg #[.int .i64 q9.kind,.string q9.text,.int .i64 q9.n,.slice S q9.list.length sc9]) (by simp[results,Tryz.results133,go_sem,y0,y1,y2,y3]) rfl ?_
 exact ChD.fin4 HV9.out C8.out.f.up C8.out.q hbz (fun _=>⟨_,C8.out.d⟩)
theorem zen(g B0:Nat)(sv:Value)(now:Int)(lv:Value)(l:List ByteArray)(s:List Ent)(c0:ByteArray)(w:World)(ok:z1m s)(hn:2≤l.length)(h12:l.length≤11)(hz:∀t∈l,t.size≤60)(hob:(decide (z02 3 (z00 s now (wd l 0)).item=0)&&z4z ((z00 s now (wd l 0)).item).list (wd l 1))=true)(h:Dr g B0 sv now lv l s w) :
  Calls prog 131 #[.pointer (some ⟨g,0,none⟩),.string ⟨#[115,105,115,109,101,109,98,101,114]⟩] w (ChD g B0 B0 sv now lv l (doC .sismember s now (c0 :: l)) w):=by
 have hr:=ok.rise
 have hs16:=ok.le
 have DI:=zDI hr hs16 h
 have LS:=hid (z0a (z07 ok) now (wd l 0)).item
 have hzw:∀i,(wd l i).size≤60:=z0s hz
 have EP:doC .sismember s now (c0 :: l)=(s,orR (z0h 1) (z02 3 (z00 s now (wd l 0)).item) false):=by
  show fin s now (wd l 0) (z00 s now (wd l 0)).item (z00 s now (wd l 0)).til false false (z02 3 (z00 s now (wd l 0)).item) (z0h (if z4z ((z00 s now (wd l 0)).item).list (wd l 1)=true then 1 else 0))=_
  rw[z23]
  refine congrArg (Prod.mk s) (z7f fun h=>?_)
  rw[decide_eq_true h,Bool.true_and] at hob
  rw[hob]
  rfl
 have OP:=hid (fun W u (k:z0q W W.heap.size u (z00 s now (wd l 0)).item)=>zb0 (z00 s now (wd l 0)).item u (wd l 1) W W.heap.size LS.out (Nat.le_refl _) k)
 rw[hob] at OP
 rw[EP]
 clear EP hob
 have H:=hid h
 have hlt:=h.lt
 have hbz:=h.bz
 obtain⟨SA,sc,rfl⟩:=h.sform
 obtain⟨LA,lc,rfl⟩:=h.lform
 obtain⟨b,off,rfl,hb,hc,hm,hat⟩:=h.word (by omega)
 have HAT:=hid hat
 have DG:=hid (fun W (hW:Fr [] w W)=>(h.go hW).three)
 unfold maxLen at hm
 clear h hr hat hzw ok
 generalize z02 3 (z00 s now (wd l 0)).item=cc at *
 generalize (z00 s now (wd l 0)).item=x at *
 have ix1:(1:Int) < (l.length:Int):=by omega
 have F0:=zF w
 have Q0:=zQ w
 obtain⟨d0,d1,d2⟩:=DG.out _ F0.out
 have dw:=F0.out.cell (HAT.out 0 (by omega)) (by simp)
 rw[Nat.add_zero] at dw
 go_enter Tryz.func131,Tryz.ntmps131
 go_wp2_with fail
 refine(DI.out _ F0.out).mono ?_
 rintro e1 w1 ⟨xv,rfl,hi,f1⟩
 have F1:=hid (F0.out.trans f1)
 have Q1:=hid (Q0.out.fr f1 (by simp))
 have HI:=hid hi
 obtain⟨X1,x1,X2,x2,X3,x3,rfl⟩:=hi.form
 have hz1:=f1.size
 simp at hz1
 clear f1 hi d0 d1 d2 dw
 have C1:=zC1 Q1 HI H F1
 have CC:=hid C1.out.drew
 obtain⟨d0,d1,d2,d3,d4⟩:=five CC.out.b
 have d5:=(CC.out.d).three.2.2
 have d6:=CC.out.f.cell (HAT.out 1 (by omega)) (by simp)
 go_upto_region 10 with fail
 go_region_held3 (fun wx=>wx.cell? ⟨w1.heap.size,0,none⟩=some (.int .i64 x.kind)∧wx.cell? ⟨w1.heap.size,1,none⟩=some (.string x.text)∧wx.cell? ⟨w1.heap.size,2,none⟩=some (.slice X1 x.list.length x1)∧wx.cell? ⟨w1.heap.size,3,none⟩=some (.slice X2 x.pairs.length x2)∧wx.cell? ⟨w1.heap.size,4,none⟩=some (.slice X3 x.scores.length x3)∧wx.cell? ⟨g,2,none⟩=some (.slice (some ⟨b,off,none⟩) l.length lc)∧wx.cell? ⟨b,off+1,none⟩=some (.string (wd l 1))) (go_keep) ((first|(go_at_call 189;(first|(with_reducible refine(OP.out _ _ CC.out.i.item).mono ?_));rintro eq wq ⟨rfl,fq⟩;have CN:=hid (CC.out.go fq);clear CC;have CC:=CN;clear CN fq d0 d1 d2 d3 d4 d5 d6;obtain⟨d0,d1,d2,d3,d4⟩:=five CC.out.b;have d5:=(CC.out.d).three.2.2;have d6:=CC.out.f.cell (HAT.out 1 (by omega)) (by simp))))
 clear d0 d1 d2 d3 d4 d5 d6
 go_wp2_with fail
 refine(z0j _ _).mono ?_
 rintro e7 w7 ⟨rfl,f7⟩
 have C7:=hid (CC.out.go f7)
 clear f7
 go_wp2_with fail
 refine(z4r (z0h 1) _ cc false (w.heap.size+1) _ (z1f.bare _ _ _ _ _)).mono ?_
 rintro e8 w8 ⟨rfl,f8⟩
 have C8:=hid (C7.out.go f8)
 have HV:=hid (show z1f w8 (w.heap.size+1) (orV (.agg #[.int .i64 3,.string ⟨#[]⟩,.int .i64 1,.slice none 0 0]) cc false) (orR (z0h 1) cc false) from z8n (z1f.bare _ _ _ _ _) cc false)
 clear f8
 obtain⟨S,sc9,hS⟩:=HV.out.form
 have HS9:=hid hS
 clear hS
 rw[HS9.out]
 have HV9:=hid (show z1f _ _ (.agg #[.int .i64 (orR (z0h 1) cc false).kind,.string (orR (z0h 1) cc false).text,.int .i64 (orR (z0h 1) cc false).n,.slice S (orR (z0h 1) cc false).list.length sc9]) (orR (z0h 1) cc false) from by have:=HV.out;rw[HS9.out] at this;exact this)
 generalize orR (z0h 1) cc false=q9 at *
 obtain⟨y0,y1,y2,y3⟩:=four C8.out.q
 obtain⟨z0,z1,z2,z3⟩:=z0w C8.out.q
 go_wp2
 refine bodyPost_ret (v:=.agg #[.int .i64 q9.kind,.string q9.text,.int .i64 q9.n,.slice S q9.list.length sc9]) (by simp[results,Tryz.results131,go_sem,y0,y1,y2,y3]) rfl ?_
 exact ChD.fin4 HV9.out C8.out.f.up C8.out.q hbz (fun _=>⟨_,C8.out.d⟩)
theorem zeu(g B0:Nat)(sv:Value)(now:Int)(lv:Value)(l:List ByteArray)(s:List Ent)(c0:ByteArray)(w:World)(ok:z1m s)(hn:2≤l.length)(h12:l.length≤11)(hz:∀t∈l,t.size≤60)(hob:(decide (z02 3 (z00 s now (wd l 0)).item=0)&&z4z ((z00 s now (wd l 0)).item).list (wd l 1))=false)(h:Dr g B0 sv now lv l s w) :
  Calls prog 131 #[.pointer (some ⟨g,0,none⟩),.string ⟨#[115,105,115,109,101,109,98,101,114]⟩] w (ChD g B0 B0 sv now lv l (doC .sismember s now (c0 :: l)) w):=by
 have hr:=ok.rise
 have hs16:=ok.le
 have DI:=zDI hr hs16 h
 have LS:=hid (z0a (z07 ok) now (wd l 0)).item
 have hzw:∀i,(wd l i).size≤60:=z0s hz
 have EP:doC .sismember s now (c0 :: l)=(s,orR (z0h 0) (z02 3 (z00 s now (wd l 0)).item) false):=by
  show fin s now (wd l 0) (z00 s now (wd l 0)).item (z00 s now (wd l 0)).til false false (z02 3 (z00 s now (wd l 0)).item) (z0h (if z4z ((z00 s now (wd l 0)).item).list (wd l 1)=true then 1 else 0))=_
  rw[z23]
  refine congrArg (Prod.mk s) (z7f fun h=>?_)
  rw[decide_eq_true h,Bool.true_and] at hob
  rw[hob]
  rfl
 have OP:=hid (fun W u (k:z0q W W.heap.size u (z00 s now (wd l 0)).item)=>zb0 (z00 s now (wd l 0)).item u (wd l 1) W W.heap.size LS.out (Nat.le_refl _) k)
 rw[hob] at OP
 rw[EP]
 clear EP hob
 have H:=hid h
 have hlt:=h.lt
 have hbz:=h.bz
 obtain⟨SA,sc,rfl⟩:=h.sform
 obtain⟨LA,lc,rfl⟩:=h.lform
 obtain⟨b,off,rfl,hb,hc,hm,hat⟩:=h.word (by omega)
 have HAT:=hid hat
 have DG:=hid (fun W (hW:Fr [] w W)=>(h.go hW).three)
 unfold maxLen at hm
 clear h hr hat hzw ok
 generalize z02 3 (z00 s now (wd l 0)).item=cc at *
 generalize (z00 s now (wd l 0)).item=x at *
 have ix1:(1:Int) < (l.length:Int):=by omega
 have F0:=zF w
 have Q0:=zQ w
 obtain⟨d0,d1,d2⟩:=DG.out _ F0.out
 have dw:=F0.out.cell (HAT.out 0 (by omega)) (by simp)
 rw[Nat.add_zero] at dw
 go_enter Tryz.func131,Tryz.ntmps131
 go_wp2_with fail
 refine(DI.out _ F0.out).mono ?_
 rintro e1 w1 ⟨xv,rfl,hi,f1⟩
 have F1:=hid (F0.out.trans f1)
 have Q1:=hid (Q0.out.fr f1 (by simp))
 have HI:=hid hi
 obtain⟨X1,x1,X2,x2,X3,x3,rfl⟩:=hi.form
 have hz1:=f1.size
 simp at hz1
 clear f1 hi d0 d1 d2 dw
 have C1:=zC1 Q1 HI H F1
 have CC:=hid C1.out.drew
 obtain⟨d0,d1,d2,d3,d4⟩:=five CC.out.b
 have d5:=(CC.out.d).three.2.2
 have d6:=CC.out.f.cell (HAT.out 1 (by omega)) (by simp)
 go_upto_region 10 with fail
 go_region_held3 (fun wx=>wx.cell? ⟨w1.heap.size,0,none⟩=some (.int .i64 x.kind)∧wx.cell? ⟨w1.heap.size,1,none⟩=some (.string x.text)∧wx.cell? ⟨w1.heap.size,2,none⟩=some (.slice X1 x.list.length x1)∧wx.cell? ⟨w1.heap.size,3,none⟩=some (.slice X2 x.pairs.length x2)∧wx.cell? ⟨w1.heap.size,4,none⟩=some (.slice X3 x.scores.length x3)∧wx.cell? ⟨g,2,none⟩=some (.slice (some ⟨b,off,none⟩) l.length lc)∧wx.cell? ⟨b,off+1,none⟩=some (.string (wd l 1))) (go_keep) ((first|(go_at_call 189;(first|(with_reducible refine(OP.out _ _ CC.out.i.item).mono ?_));rintro eq wq ⟨rfl,fq⟩;have CN:=hid (CC.out.go fq);clear CC;have CC:=CN;clear CN fq d0 d1 d2 d3 d4 d5 d6;obtain⟨d0,d1,d2,d3,d4⟩:=five CC.out.b;have d5:=(CC.out.d).three.2.2;have d6:=CC.out.f.cell (HAT.out 1 (by omega)) (by simp))))
 clear d0 d1 d2 d3 d4 d5 d6
 go_wp2_with fail
 refine(z0j _ _).mono ?_
 rintro e7 w7 ⟨rfl,f7⟩
 have C7:=hid (CC.out.go f7)
 clear f7
 go_wp2_with fail
 refine(z4r (z0h 0) _ cc false (w.heap.size+1) _ (z1f.bare _ _ _ _ _)).mono ?_
 rintro e8 w8 ⟨rfl,f8⟩
 have C8:=hid (C7.out.go f8)
 have HV:=hid (show z1f w8 (w.heap.size+1) (orV (.agg #[.int .i64 3,.string ⟨#[]⟩,.int .i64 0,.slice none 0 0]) cc false) (orR (z0h 0) cc false) from z8n (z1f.bare _ _ _ _ _) cc false)
 clear f8
 obtain⟨S,sc9,hS⟩:=HV.out.form
 have HS9:=hid hS
 clear hS
 rw[HS9.out]
 have HV9:=hid (show z1f _ _ (.agg #[.int .i64 (orR (z0h 0) cc false).kind,.string (orR (z0h 0) cc false).text,.int .i64 (orR (z0h 0) cc false).n,.slice S (orR (z0h 0) cc false).list.length sc9]) (orR (z0h 0) cc false) from by have:=HV.out;rw[HS9.out] at this;exact this)
 generalize orR (z0h 0) cc false=q9 at *
 obtain⟨y0,y1,y2,y3⟩:=four C8.out.q
 obtain⟨z0,z1,z2,z3⟩:=z0w C8.out.q
 go_wp2
 refine bodyPost_ret (v:=.agg #[.int .i64 q9.kind,.string q9.text,.int .i64 q9.n,.slice S q9.list.length sc9]) (by simp[results,Tryz.results131,go_sem,y0,y1,y2,y3]) rfl ?_
 exact ChD.fin4 HV9.out C8.out.f.up C8.out.q hbz (fun _=>⟨_,C8.out.d⟩)
theorem zhw(g B0:Nat)(sv:Value)(now:Int)(lv:Value)(l:List ByteArray)(s:List Ent)(c0:ByteArray)(w:World)(ok:z1m s)(hn:2≤l.length)(h12:l.length≤11)(hz:∀t∈l,t.size≤60)(h:Dr g B0 sv now lv l s w) :
  Calls prog 131 #[.pointer (some ⟨g,0,none⟩),.string ⟨#[115,105,115,109,101,109,98,101,114]⟩] w (ChD g B0 B0 sv now lv l (doC .sismember s now (c0 :: l)) w):=by
 rcases hb:(decide (z02 3 (z00 s now (wd l 0)).item=0)&&z4z ((z00 s now (wd l 0)).item).list (wd l 1)) with _|_
 ·exact zeu g B0 sv now lv l s c0 w ok hn h12 hz hb h
 ·exact zen g B0 sv now lv l s c0 w ok hn h12 hz hb h
theorem zn9(g B0:Nat)(sv:Value)(now:Int)(lv:Value)(l:List ByteArray)(s:List Ent)(c0:ByteArray)(w:World)(ok:z1m s)(hn:3≤l.length)(h12:l.length≤11)(hz:∀t∈l,t.size≤60)(n1:Int)(h1:z3v (wd l 1).data.toList=some n1)(n2:Int)(h2:z3v (wd l 2).data.toList=some n2)(hv:Vars w)(h:Dr g B0 sv now lv l s w) :
  Calls prog 130 #[.pointer (some ⟨g,0,none⟩),.string ⟨#[108,114,97,110,103,101]⟩] w (ChD g B0 B0 sv now lv l (doC .lrange s now (c0 :: l)) w):=by
 have hr:=ok.rise
 have hs16:=ok.le
 have DI:=zDI hr hs16 h
 have LS:=hid (z0a (z07 ok) now (wd l 0)).item
 have hzw:∀i,(wd l i).size≤60:=z0s hz
 have en1:wn (c0 :: l) 2=n1:=by show(z3v (wd l 1).data.toList).getD 0=n1;rw[h1];rfl
 have bn1:=z74 h1
 have I1:=hid (fun W (hW:Fr [] w W)=>(show Calls prog 174 #[.pointer (some ⟨g,0,none⟩),.int .i64 1] W (fun e w'=>e=.returned (.int .i64 n1)∧Fr [] W w') from z38 g B0 sv now lv l s 1 n1 W (by omega) (fun t ht=>by have:=hz t ht;omega) h1 (hv.fr hW) (h.go hW)))
 have en2:wn (c0 :: l) 3=n2:=by show(z3v (wd l 2).data.toList).getD 0=n2;rw[h2];rfl
 have bn2:=z74 h2
 have I2:=hid (fun W (hW:Fr [] w W)=>(show Calls prog 174 #[.pointer (some ⟨g,0,none⟩),.int .i64 2] W (fun e w'=>e=.returned (.int .i64 n2)∧Fr [] W w') from z38 g B0 sv now lv l s 2 n2 W (by omega) (fun t ht=>by have:=hz t ht;omega) h2 (hv.fr hW) (h.go hW)))
 clear h1 h2 hv
 have EP:doC .lrange s now (c0 :: l)=(s,orR (z25 (z2i (z00 s now (wd l 0)).item n1 n2)) (z02 2 (z00 s now (wd l 0)).item) false):=by
  show fin s now (wd l 0) (z00 s now (wd l 0)).item (z00 s now (wd l 0)).til false false (z02 2 (z00 s now (wd l 0)).item) (z25 (z29 ((z00 s now (wd l 0)).item).list (wn (c0 :: l) 2) (wn (c0 :: l) 3)))=_
  rw[en1,en2,z23]
  exact congrArg (Prod.mk s) (z7f fun h=>by unfold z2i;rw[if_pos h])
 have LEN:(z2i (z00 s now (wd l 0)).item n1 n2).length≤1000:=by have:=(zcw (z00 s now (wd l 0)).item n1 n2).1;omega
 have DL:=hid (fun(W:World) u (k:Sl W W.heap.size 1 u (z2i (z00 s now (wd l 0)).item n1 n2).length (z03 (z2i (z00 s now (wd l 0)).item n1 n2)))=>z2o (z2i (z00 s now (wd l 0)).item n1 n2) u (z02 2 (z00 s now (wd l 0)).item) W LEN k)
 have OP:=hid (fun W u (k:z0q W W.heap.size u (z00 s now (wd l 0)).item)=>(show Calls prog 184 #[u,.int .i64 n1,.int .i64 n2] W (znf (z2i (z00 s now (wd l 0)).item n1 n2) (z02 2 (z00 s now (wd l 0)).item) W) from za4 (z00 s now (wd l 0)).item u n1 n2 W W.heap.size LS.out (Nat.le_refl _) k bn1 bn2))
 rw[EP]
 clear EP en1 en2 LEN
 have H:=hid h
 have hlt:=h.lt
 have hbz:=h.bz
 obtain⟨SA,sc,rfl⟩:=h.sform
 obtain⟨LA,lc,rfl⟩:=h.lform
 obtain⟨b,off,rfl,hb,hc,hm,hat⟩:=h.word (by omega)
 have HAT:=hid hat
 have DG:=hid (fun W (hW:Fr [] w W)=>(h.go hW).three)
 unfold maxLen at hm
 clear h hr hat hzw ok
 generalize z2i (z00 s now (wd l 0)).item n1 n2=rr at *
 generalize z02 2 (z00 s now (wd l 0)).item=cc at *
 generalize (z00 s now (wd l 0)).item=x at *
 generalize orR (z25 rr) cc false=q9 at *
 have F0:=zF w
 have Q0:=zQ w
 obtain⟨d0,d1,d2⟩:=DG.out _ F0.out
 have dw:=F0.out.cell (HAT.out 0 (by omega)) (by simp)
 rw[Nat.add_zero] at dw
 go_enter Tryz.func130,Tryz.ntmps130
 go_wp2_with fail
 refine(DI.out _ F0.out).mono ?_
 rintro e1 w1 ⟨xv,rfl,hi,f1⟩
 have F1:=hid (F0.out.trans f1)
 have Q1:=hid (Q0.out.fr f1 (by simp))
 have HI:=hid hi
 obtain⟨X1,x1,X2,x2,X3,x3,rfl⟩:=hi.form
 have hz1:=f1.size
 simp at hz1
 clear f1 hi d0 d1 d2 dw
 have C1:=zC1 Q1 HI H F1
 have CC:=hid C1.out.drew
 have hzx1:¬w.heap.size=w1.heap.size:=by omega
 have hzx2:¬w1.heap.size=w.heap.size:=by omega
 obtain⟨d0,d1,d2,d3,d4⟩:=five CC.out.b
 go_upto_region 14 with fail
 go_region_held3 (fun wx=>wx.cell? ⟨w1.heap.size,0,none⟩=some (.int .i64 x.kind)∧wx.cell? ⟨w1.heap.size,1,none⟩=some (.string x.text)∧wx.cell? ⟨w1.heap.size,2,none⟩=some (.slice X1 x.list.length x1)∧wx.cell? ⟨w1.heap.size,3,none⟩=some (.slice X2 x.pairs.length x2)∧wx.cell? ⟨w1.heap.size,4,none⟩=some (.slice X3 x.scores.length x3)) (go_keep) ((first|(go_at_call 174;(first|(with_reducible refine(I1.out _ CC.out.f).mono ?_)|(with_reducible refine(I2.out _ CC.out.f).mono ?_));rintro eq wq ⟨rfl,fq⟩;have CN:=hid (CC.out.go fq);clear CC;have CC:=CN;clear CN fq d0 d1 d2 d3 d4;obtain⟨d0,d1,d2,d3,d4⟩:=five CC.out.b)|(go_at_call 184;(first|(with_reducible refine(OP.out _ _ CC.out.i.item).mono ?_));rintro eq wq ⟨ur,rfl,our,fq⟩;have OUR:=hid (z0t our);clear our;have CN:=hid (CC.out.go fq);clear CC;have CC:=CN;clear CN fq d0 d1 d2 d3 d4;obtain⟨d0,d1,d2,d3,d4⟩:=five CC.out.b)|(go_at_call 179;refine(DL.out _ _ OUR.out).mono ?_;rintro eq w8 ⟨u8,rfl,hu8,f8⟩;have C8:=hid (CC.out.go f8);have HU8:=hid (hu8.base (show w.heap.size+1≤_ from CC.out.q.lt));obtain⟨S,sc9,rfl⟩:=hu8.form;clear hu8 f8 d0 d1 d2 d3 d4;obtain⟨d0,d1,d2,d3,d4⟩:=five C8.out.b;obtain⟨y0,y1,y2,y3⟩:=four C8.out.q;obtain⟨z0,z1,z2,z3⟩:=z0w C8.out.q)))
 go_wp2
 refine bodyPost_ret (v:=.agg #[.int .i64 q9.kind,.string q9.text,.int .i64 q9.n,.slice S q9.list.length sc9]) (by simp[results,Tryz.results130,go_sem,y0,y1,y2,y3]) rfl ?_
 exact ChD.fin4 HU8.out C8.out.f.up C8.out.q hbz (fun _=>⟨_,C8.out.d⟩)
theorem zp7(g B0:Nat)(sv:Value)(now:Int)(lv:Value)(l:List ByteArray)(s:List Ent)(c0:ByteArray)(w:World)(ok:z1m s)(hn:3≤l.length)(h12:l.length≤11)(hz:∀t∈l,t.size≤60)(n1:Int)(h1:z3v (wd l 1).data.toList=some n1)(n2:Int)(h2:z3v (wd l 2).data.toList=some n2)(hv:Vars w)(h:Dr g B0 sv now lv l s w) :
  Calls prog 133 #[.pointer (some ⟨g,0,none⟩),.string ⟨#[122,114,97,110,103,101]⟩] w (ChD g B0 B0 sv now lv l (doC .zrange s now (c0 :: l)) w):=by
 have hr:=ok.rise
 have hs16:=ok.le
 have DI:=zDI hr hs16 h
 have LS:=hid (z0a (z07 ok) now (wd l 0)).item
 have hzw:∀i,(wd l i).size≤60:=z0s hz
 have en1:wn (c0 :: l) 2=n1:=by show(z3v (wd l 1).data.toList).getD 0=n1;rw[h1];rfl
 have bn1:=z74 h1
 have I1:=hid (fun W (hW:Fr [] w W)=>(show Calls prog 174 #[.pointer (some ⟨g,0,none⟩),.int .i64 1] W (fun e w'=>e=.returned (.int .i64 n1)∧Fr [] W w') from z38 g B0 sv now lv l s 1 n1 W (by omega) (fun t ht=>by have:=hz t ht;omega) h1 (hv.fr hW) (h.go hW)))
 have en2:wn (c0 :: l) 3=n2:=by show(z3v (wd l 2).data.toList).getD 0=n2;rw[h2];rfl
 have bn2:=z74 h2
 have I2:=hid (fun W (hW:Fr [] w W)=>(show Calls prog 174 #[.pointer (some ⟨g,0,none⟩),.int .i64 2] W (fun e w'=>e=.returned (.int .i64 n2)∧Fr [] W w') from z38 g B0 sv now lv l s 2 n2 W (by omega) (fun t ht=>by have:=hz t ht;omega) h2 (hv.fr hW) (h.go hW)))
 clear h1 h2 hv
 have EP:doC .zrange s now (c0 :: l)=(s,orR (z25 (z65 (z00 s now (wd l 0)).item n1 n2)) (z02 5 (z00 s now (wd l 0)).item) false):=by
  show fin s now (wd l 0) (z00 s now (wd l 0)).item (z00 s now (wd l 0)).til false false (z02 5 (z00 s now (wd l 0)).item) (z25 (z65 (z00 s now (wd l 0)).item (wn (c0 :: l) 2) (wn (c0 :: l) 3)))=_
  rw[en1,en2,z23]
  skip
 have LEN:(z65 (z00 s now (wd l 0)).item n1 n2).length≤1000:=zss (z00 s now (wd l 0)).item n1 n2
 have DL:=hid (fun(W:World) u (k:Sl W W.heap.size 1 u (z65 (z00 s now (wd l 0)).item n1 n2).length (z03 (z65 (z00 s now (wd l 0)).item n1 n2)))=>z2o (z65 (z00 s now (wd l 0)).item n1 n2) u (z02 5 (z00 s now (wd l 0)).item) W LEN k)
 have OP:=hid (fun W u (k:z0q W W.heap.size u (z00 s now (wd l 0)).item)=>zds (z00 s now (wd l 0)).item u n1 n2 W W.heap.size LS.out (Nat.le_refl _) k bn1 bn2)
 rw[EP]
 clear EP en1 en2 LEN
 have H:=hid h
 have hlt:=h.lt
 have hbz:=h.bz
 obtain⟨SA,sc,rfl⟩:=h.sform
 obtain⟨LA,lc,rfl⟩:=h.lform
 obtain⟨b,off,rfl,hb,hc,hm,hat⟩:=h.word (by omega)
 have HAT:=hid hat
 have DG:=hid (fun W (hW:Fr [] w W)=>(h.go hW).three)
 unfold maxLen at hm
 clear h hr hat hzw ok
 generalize z65 (z00 s now (wd l 0)).item n1 n2=rr at *
 generalize z02 5 (z00 s now (wd l 0)).item=cc at *
 generalize (z00 s now (wd l 0)).item=x at *
 generalize orR (z25 rr) cc false=q9 at *
 have F0:=zF w
 have Q0:=zQ w
 obtain⟨d0,d1,d2⟩:=DG.out _ F0.out
 have dw:=F0.out.cell (HAT.out 0 (by omega)) (by simp)
 rw[Nat.add_zero] at dw
 go_enter Tryz.func133,Tryz.ntmps133
 go_wp2_with fail
 refine(DI.out _ F0.out).mono ?_
 rintro e1 w1 ⟨xv,rfl,hi,f1⟩
 have F1:=hid (F0.out.trans f1)
 have Q1:=hid (Q0.out.fr f1 (by simp))
 have HI:=hid hi
 obtain⟨X1,x1,X2,x2,X3,x3,rfl⟩:=hi.form
 have hz1:=f1.size
 simp at hz1
 clear f1 hi d0 d1 d2 dw
 have C1:=zC1 Q1 HI H F1
 have CC:=hid C1.out.drew
 have hzx1:¬w.heap.size=w1.heap.size:=by omega
 have hzx2:¬w1.heap.size=w.heap.size:=by omega
 obtain⟨d0,d1,d2,d3,d4⟩:=five CC.out.b
 go_upto_region 21 with fail
 go_region_held3 (fun wx=>wx.cell? ⟨w1.heap.size,0,none⟩=some (.int .i64 x.kind)∧wx.cell? ⟨w1.heap.size,1,none⟩=some (.string x.text)∧wx.cell? ⟨w1.heap.size,2,none⟩=some (.slice X1 x.list.length x1)∧wx.cell? ⟨w1.heap.size,3,none⟩=some (.slice X2 x.pairs.length x2)∧wx.cell? ⟨w1.heap.size,4,none⟩=some (.slice X3 x.scores.length x3)) (go_keep) ((first|(go_at_call 174;(first|(with_reducible refine(I1.out _ CC.out.f).mono ?_)|(with_reducible refine(I2.out _ CC.out.f).mono ?_));rintro eq wq ⟨rfl,fq⟩;have CN:=hid (CC.out.go fq);clear CC;have CC:=CN;clear CN fq d0 d1 d2 d3 d4;obtain⟨d0,d1,d2,d3,d4⟩:=five CC.out.b)|(go_at_call 201;(first|(with_reducible refine(OP.out _ _ CC.out.i.item).mono ?_));rintro eq wq ⟨ur,rfl,our,fq⟩;have OUR:=hid (z0t our);clear our;have CN:=hid (CC.out.go fq);clear CC;have CC:=CN;clear CN fq d0 d1 d2 d3 d4;obtain⟨d0,d1,d2,d3,d4⟩:=five CC.out.b)|(go_at_call 179;refine(DL.out _ _ OUR.out).mono ?_;rintro eq w8 ⟨u8,rfl,hu8,f8⟩;have C8:=hid (CC.out.go f8);have HU8:=hid (hu8.base (show w.heap.size+1≤_ from CC.out.q.lt));obtain⟨S,sc9,rfl⟩:=hu8.form;clear hu8 f8 d0 d1 d2 d3 d4;obtain⟨d0,d1,d2,d3,d4⟩:=five C8.out.b;obtain⟨y0,y1,y2,y3⟩:=four C8.out.q;obtain⟨z0,z1,z2,z3⟩:=z0w C8.out.q)))
 go_wp2
 refine bodyPost_ret (v:=.agg #[.int .i64 q9.kind,.string q9.text,.int .i64 q9.n,.slice S q9.list.length sc9]) (by simp[results,Tryz.results133,go_sem,y0,y1,y2,y3]) rfl ?_
 exact ChD.fin4 HU8.out C8.out.f.up C8.out.q hbz (fun _=>⟨_,C8.out.d⟩)
theorem zbn(g B0:Nat)(sv:Value)(now:Int)(lv:Value)(l:List ByteArray)(s:List Ent)(c0:ByteArray)(w:World)(ok:z1m s)(hn:3≤l.length)(h12:l.length≤11)(hz:∀t∈l,t.size≤60)(n1:Int)(h1:z3v (wd l 1).data.toList=some n1)(n2:Int)(h2:z3v (wd l 2).data.toList=some n2)(hv:Vars w)(h:Dr g B0 sv now lv l s w) :
  Calls prog 133 #[.pointer (some ⟨g,0,none⟩),.string ⟨#[122,114,97,110,103,101,98,121,115,99,111,114,101]⟩] w (ChD g B0 B0 sv now lv l (doC .zrangebyscore s now (c0 :: l)) w):=by
 have hr:=ok.rise
 have hs16:=ok.le
 have DI:=zDI hr hs16 h
 have LS:=hid (z0a (z07 ok) now (wd l 0)).item
 have hzw:∀i,(wd l i).size≤60:=z0s hz
 have en1:wn (c0 :: l) 2=n1:=by show(z3v (wd l 1).data.toList).getD 0=n1;rw[h1];rfl
 have bn1:=z74 h1
 have I1:=hid (fun W (hW:Fr [] w W)=>(show Calls prog 174 #[.pointer (some ⟨g,0,none⟩),.int .i64 1] W (fun e w'=>e=.returned (.int .i64 n1)∧Fr [] W w') from z38 g B0 sv now lv l s 1 n1 W (by omega) (fun t ht=>by have:=hz t ht;omega) h1 (hv.fr hW) (h.go hW)))
 have en2:wn (c0 :: l) 3=n2:=by show(z3v (wd l 2).data.toList).getD 0=n2;rw[h2];rfl
 have bn2:=z74 h2
 have I2:=hid (fun W (hW:Fr [] w W)=>(show Calls prog 174 #[.pointer (some ⟨g,0,none⟩),.int .i64 2] W (fun e w'=>e=.returned (.int .i64 n2)∧Fr [] W w') from z38 g B0 sv now lv l s 2 n2 W (by omega) (fun t ht=>by have:=hz t ht;omega) h2 (hv.fr hW) (h.go hW)))
 clear h1 h2 hv
 have EP:doC .zrangebyscore s now (c0 :: l)=(s,orR (z25 (z48 (z00 s now (wd l 0)).item n1 n2)) (z02 5 (z00 s now (wd l 0)).item) false):=by
  show fin s now (wd l 0) (z00 s now (wd l 0)).item (z00 s now (wd l 0)).til false false (z02 5 (z00 s now (wd l 0)).item) (z25 (z48 (z00 s now (wd l 0)).item (wn (c0 :: l) 2) (wn (c0 :: l) 3)))=_
  rw[en1,en2,z23]
  skip
 have LEN:(z48 (z00 s now (wd l 0)).item n1 n2).length≤1000:=zq9 (z00 s now (wd l 0)).item n1 n2
 have DL:=hid (fun(W:World) u (k:Sl W W.heap.size 1 u (z48 (z00 s now (wd l 0)).item n1 n2).length (z03 (z48 (z00 s now (wd l 0)).item n1 n2)))=>z2o (z48 (z00 s now (wd l 0)).item n1 n2) u (z02 5 (z00 s now (wd l 0)).item) W LEN k)
 have OP:=hid (fun W u (k:z0q W W.heap.size u (z00 s now (wd l 0)).item)=>zcc (z00 s now (wd l 0)).item u n1 n2 W W.heap.size LS.out (Nat.le_refl _) k)
 rw[EP]
 clear EP en1 en2 LEN
 have H:=hid h
 have hlt:=h.lt
 have hbz:=h.bz
 obtain⟨SA,sc,rfl⟩:=h.sform
 obtain⟨LA,lc,rfl⟩:=h.lform
 obtain⟨b,off,rfl,hb,hc,hm,hat⟩:=h.word (by omega)
 have HAT:=hid hat
 have DG:=hid (fun W (hW:Fr [] w W)=>(h.go hW).three)
 unfold maxLen at hm
 clear h hr hat hzw ok
 generalize z48 (z00 s now (wd l 0)).item n1 n2=rr at *
 generalize z02 5 (z00 s now (wd l 0)).item=cc at *
 generalize (z00 s now (wd l 0)).item=x at *
 generalize orR (z25 rr) cc false=q9 at *
 have F0:=zF w
 have Q0:=zQ w
 obtain⟨d0,d1,d2⟩:=DG.out _ F0.out
 have dw:=F0.out.cell (HAT.out 0 (by omega)) (by simp)
 rw[Nat.add_zero] at dw
 go_enter Tryz.func133,Tryz.ntmps133
 go_wp2_with fail
 refine(DI.out _ F0.out).mono ?_
 rintro e1 w1 ⟨xv,rfl,hi,f1⟩
 have F1:=hid (F0.out.trans f1)
 have Q1:=hid (Q0.out.fr f1 (by simp))
 have HI:=hid hi
 obtain⟨X1,x1,X2,x2,X3,x3,rfl⟩:=hi.form
 have hz1:=f1.size
 simp at hz1
 clear f1 hi d0 d1 d2 dw
 have C1:=zC1 Q1 HI H F1
 have CC:=hid C1.out.drew
 have hzx1:¬w.heap.size=w1.heap.size:=by omega
 have hzx2:¬w1.heap.size=w.heap.size:=by omega
 obtain⟨d0,d1,d2,d3,d4⟩:=five CC.out.b
 go_upto_region 22 with fail
 go_region_held3 (fun wx=>wx.cell? ⟨w1.heap.size,0,none⟩=some (.int .i64 x.kind)∧wx.cell? ⟨w1.heap.size,1,none⟩=some (.string x.text)∧wx.cell? ⟨w1.heap.size,2,none⟩=some (.slice X1 x.list.length x1)∧wx.cell? ⟨w1.heap.size,3,none⟩=some (.slice X2 x.pairs.length x2)∧wx.cell? ⟨w1.heap.size,4,none⟩=some (.slice X3 x.scores.length x3)) (go_keep) ((first|(go_at_call 174;(first|(with_reducible refine(I1.out _ CC.out.f).mono ?_)|(with_reducible refine(I2.out _ CC.out.f).mono ?_));rintro eq wq ⟨rfl,fq⟩;have CN:=hid (CC.out.go fq);clear CC;have CC:=CN;clear CN fq d0 d1 d2 d3 d4;obtain⟨d0,d1,d2,d3,d4⟩:=five CC.out.b)|(go_at_call 202;(first|(with_reducible refine(OP.out _ _ CC.out.i.item).mono ?_));rintro eq wq ⟨ur,rfl,our,fq⟩;have OUR:=hid (z0t our);clear our;have CN:=hid (CC.out.go fq);clear CC;have CC:=CN;clear CN fq d0 d1 d2 d3 d4;obtain⟨d0,d1,d2,d3,d4⟩:=five CC.out.b)|(go_at_call 179;refine(DL.out _ _ OUR.out).mono ?_;rintro eq w8 ⟨u8,rfl,hu8,f8⟩;have C8:=hid (CC.out.go f8);have HU8:=hid (hu8.base (show w.heap.size+1≤_ from CC.out.q.lt));obtain⟨S,sc9,rfl⟩:=hu8.form;clear hu8 f8 d0 d1 d2 d3 d4;obtain⟨d0,d1,d2,d3,d4⟩:=five C8.out.b;obtain⟨y0,y1,y2,y3⟩:=four C8.out.q;obtain⟨z0,z1,z2,z3⟩:=z0w C8.out.q)))
 go_wp2
 refine bodyPost_ret (v:=.agg #[.int .i64 q9.kind,.string q9.text,.int .i64 q9.n,.slice S q9.list.length sc9]) (by simp[results,Tryz.results133,go_sem,y0,y1,y2,y3]) rfl ?_
 exact ChD.fin4 HU8.out C8.out.f.up C8.out.q hbz (fun _=>⟨_,C8.out.d⟩)
end Go.Proofs.YtamgdmiopinidaaGreatDoor
