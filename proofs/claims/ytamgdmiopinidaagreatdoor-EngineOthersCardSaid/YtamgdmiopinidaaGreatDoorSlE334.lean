/- Contracts that the proof of E3 uses. No condition beyond those in each theorem. -/
import Derived.Test.YtamgdmiopinidaaGreatDoorSlE325
import Derived.Test.YtamgdmiopinidaaGreatDoorSlE331
set_option linter.unusedVariables false
set_option linter.unusedSimpArgs false
set_option maxHeartbeats 8000000
set_option maxRecDepth 100000
namespace Go.Proofs.YtamgdmiopinidaaGreatDoor
open Lib (hid)
open Go.Proofs.Tryz (prog)
open Go.RowKit
theorem zg8(s:List Ent)(now:Int)(k:ByteArray)(x:Itm)(u:Int):z1e s now k x u≠5:=by
 unfold z1e
 split
 ·decide
 ·split <;> decide
theorem zoi(left:Bool)(t:ByteArray)(ht:(left=true∧t=⟨#[108,112,111,112]⟩)∨(left=false∧t=⟨#[114,112,111,112]⟩))(g B0:Nat)(sv:Value)(now:Int)(lv:Value)(l:List ByteArray)(s:List Ent)(c0:ByteArray)(w:World)(ok:z1m s)(hn:1≤l.length)(h12:l.length≤11)(hz:∀t∈l,t.size≤60)(h:Dr g B0 sv now lv l s w) :
  Calls prog 130 #[.pointer (some ⟨g,0,none⟩),.string t] w (ChD g B0 B0 sv now lv l (doC (if left=true then .lpop else .rpop) s now (c0 :: l)) w):=by
 have hr:=ok.rise
 have hs16:=ok.le
 have DI:=zDI hr hs16 h
 have LS:=hid (z0a (z07 ok) now (wd l 0)).item
 have hzw:∀i,(wd l i).size≤60:=z0s hz
 have EP:doC (if left=true then .lpop else .rpop) s now (c0 :: l)=(if z1u (z00 s now (wd l 0)).item=0 then (if z1e s now (wd l 0) (zdu (z00 s now (wd l 0)).item left) (z00 s now (wd l 0)).til=0 then z5l s now (wd l 0) (zdu (z00 s now (wd l 0)).item left) (z00 s now (wd l 0)).til else s) else s,orR (z1b (zr3 (z00 s now (wd l 0)).item left)) (if z1u (z00 s now (wd l 0)).item=0 then z1e s now (wd l 0) (zdu (z00 s now (wd l 0)).item left) (z00 s now (wd l 0)).til else z1u (z00 s now (wd l 0)).item) true):=by
  rw[show doC (if left=true then .lpop else .rpop) s now (c0 :: l)=fin s now (wd l 0) (zdu (z00 s now (wd l 0)).item left) (z00 s now (wd l 0)).til true true (z1u (z00 s now (wd l 0)).item) (z1b (zr3 (z00 s now (wd l 0)).item left)) from by cases left <;> rfl]
  unfold fin
  have h5:=zg8 s now (wd l 0) (zdu (z00 s now (wd l 0)).item left) (z00 s now (wd l 0)).til
  by_cases h0:z1u (z00 s now (wd l 0)).item=0
  ·rw[if_pos h0,if_pos rfl,if_pos h0,if_pos h0]
   by_cases h1:z1e s now (wd l 0) (zdu (z00 s now (wd l 0)).item left) (z00 s now (wd l 0)).til=0
   ·rw[if_pos h1,if_pos h1,h1];rfl
   ·rw[if_neg h1,if_neg h1]
    unfold orR
    rw[if_neg h1,if_neg (fun h=>h5 h.1)]
  ·rw[if_neg h0,if_neg h0,if_neg h0]
   unfold orR
   rw[if_neg h0]
   split <;> rfl
 have OP:=hid (fun W u (k:z0q W W.heap.size u (z00 s now (wd l 0)).item)=>zij (z00 s now (wd l 0)).item u left W W.heap.size LS.out (Nat.le_refl _) k)
 have KP:=hid (fun W yv (hd:Dr g B0 sv now lv l s W) (hy:z0l W B0 yv (zdu (z00 s now (wd l 0)).item left))=>zgg g B0 sv now lv l s (zdu (z00 s now (wd l 0)).item left) yv W hr (by omega) (by omega) (zle _ _) hd hy)
 rw[EP]
 clear EP
 have H:=hid h
 have hlt:=h.lt
 have hbz:=h.bz
 obtain⟨SA,sc,rfl⟩:=h.sform
 obtain⟨LA,lc,rfl⟩:=h.lform
 obtain⟨b,off,rfl,hb,hc,hm,hat⟩:=h.word (by omega)
 have HAT:=hid hat
 have DG:=hid (fun W (hW:Fr [] w W)=>(h.go hW).three)
 unfold maxLen at hm
 clear h hr hat hzw ok
 generalize z5l s now (wd l 0) (zdu (z00 s now (wd l 0)).item left) (z00 s now (wd l 0)).til=s' at *
 have H5:=hid (zg8 s now (wd l 0) (zdu (z00 s now (wd l 0)).item left) (z00 s now (wd l 0)).til)
 generalize z1e s now (wd l 0) (zdu (z00 s now (wd l 0)).item left) (z00 s now (wd l 0)).til=pc at *
 generalize zdu (z00 s now (wd l 0)).item left=y at *
 generalize zr3 (z00 s now (wd l 0)).item left=tt at *
 generalize z1u (z00 s now (wd l 0)).item=cc at *
 generalize (z00 s now (wd l 0)).item=x at *
 rcases ht with⟨rfl,rfl⟩|⟨rfl,rfl⟩
 all_goals
  by_cases hcc:cc=0
  ·
   subst hcc
   rw[if_pos rfl,if_pos rfl]
   obtain⟨sf,hsf⟩:∃sf,sf=(if pc=0 then s' else s):=⟨_,rfl⟩
   rw[←hsf]
   have HSF:=hid hsf
   clear hsf
   have F0:=zF w
   have Q0:=zQ w
   obtain⟨d0,d1,d2⟩:=DG.out _ F0.out
   have dw:=F0.out.cell (HAT.out 0 (by omega)) (by simp)
   rw[Nat.add_zero] at dw
   go_enter Tryz.func130,Tryz.ntmps130
   go_wp2_with fail
   refine(DI.out _ F0.out).mono ?_
   rintro e1 w1 ⟨xv,rfl,hi,f1⟩
   have F1:=hid (F0.out.trans f1)
   have Q1:=hid (Q0.out.fr f1 (by simp))
   have HI:=hid hi
   obtain⟨X1,x1,X2,x2,X3,x3,rfl⟩:=hi.form
   have hz1:=f1.size
   simp at hz1
   clear f1 hi d0 d1 d2 dw
   have C1:=zC1 Q1 HI H F1
   have CC:=hid C1.out
   obtain⟨d0,d1,d2,d3,d4⟩:=five CC.out.b
   go_wp2_with fail
   refine(OP.out _ _ CC.out.i.item).mono ?_
   rintro eq wq ⟨yv,rfl,hy,fq⟩
   have CN:=hid (CC.out.go fq)
   have HY:=hid (hy.less (show B0≤_ from CC.out.d.bz))
   obtain⟨Y1,y1,Y2,y2,Y3,y3,rfl⟩:=hy.form
   clear CC hy fq d0 d1 d2 d3 d4
   have CC:=hid (CN.out.go ((Fr.refl [] wq).alloc (.cells #[.int .i64 y.kind,.string y.text,.slice Y1 y.list.length y1,.slice Y2 y.pairs.length y2,.slice Y3 y.scores.length y3] 43)))
   have VB:=hid (Whole.new wq 43 [.int .i64 y.kind,.string y.text,.slice Y1 y.list.length y1,.slice Y2 y.pairs.length y2,.slice Y3 y.scores.length y3])
   have HY2:=hid (HY.out.go ((Fr.refl [] wq).alloc (.cells #[.int .i64 y.kind,.string y.text,.slice Y1 y.list.length y1,.slice Y2 y.pairs.length y2,.slice Y3 y.scores.length y3] 43)))
   have hzq:=CN.out.f.size
   obtain⟨m0,m1,m2,m3,m4⟩:=five VB.out
   go_wp2_with fail
   refine(KP.out _ _ CC.out.d HY2.out).mono ?_
   rintro e6 w6 ⟨rfl,f6,sv6,hg6,hd6⟩
   have Q6:=hid (CC.out.q.fr f6 (fun hm=>by have:=(H.out.low _ hm).2;omega))
   have F6:=hid (CC.out.f.up.trans f6)
   have HD:=hid hd6
   clear f6 hg6 hd6 m0 m1 m2 m3 m4
   go_wp2_with fail
   refine(z7t tt _).mono ?_
   rintro e7 w7 ⟨rfl,f7⟩
   have F7:=hid f7
   clear f7
   go_wp2_with fail
   refine(z4r (z1b tt) _ pc true (w.heap.size+1) _ (z1f.bare _ _ _ _ _)).mono ?_
   rintro e8 w8 ⟨rfl,f8⟩
   have F8:=hid (F7.out.trans f8)
   have Q8:=hid (Q6.out.fr F8.out (by simp))
   have HV:=hid (show z1f w8 (w.heap.size+1) (orV (.agg #[.int .i64 4,.string tt,.int .i64 0,.slice none 0 0]) pc true) (orR (z1b tt) pc true) from z8n (z1f.bare _ _ _ _ _) pc true)
   clear f8
   have HD9:=hid (show(orR (z1b tt) pc true).kind≠2→∃sv',Dr g B0 sv' now (.slice (some ⟨b,off,none⟩) l.length lc) l sf w8 from fun hk=>by
    by_cases hp:pc=0
    ·rw[HSF.out,if_pos hp];exact⟨_,(HD.out hp).go F8.out⟩
    ·rw[HSF.out,if_neg hp]
     have h5:=H5.out
     exact absurd (show(orR (z1b tt) pc true).kind=2 from by unfold orR;rw[if_neg hp,if_neg (fun h=>h5 h.1)];rfl) hk)
   obtain⟨S,sc9,hS⟩:=HV.out.form
   have HS9:=hid hS
   clear hS
   rw[HS9.out]
   have HV9:=hid (show z1f w8 (w.heap.size+1) (.agg #[.int .i64 (orR (z1b tt) pc true).kind,.string (orR (z1b tt) pc true).text,.int .i64 (orR (z1b tt) pc true).n,.slice S (orR (z1b tt) pc true).list.length sc9]) (orR (z1b tt) pc true) from by have:=HV.out;rw[HS9.out] at this;exact this)
   generalize orR (z1b tt) pc true=q9 at *
   obtain⟨y0,y1',y2',y3'⟩:=four Q8.out
   obtain⟨z0,z1,z2,z3⟩:=z0w Q8.out
   go_wp2
   refine bodyPost_ret (v:=.agg #[.int .i64 q9.kind,.string q9.text,.int .i64 q9.n,.slice S q9.list.length sc9]) (by simp[results,Tryz.results130,go_sem,y0,y1',y2',y3']) rfl ?_
   exact ChD.fin4 HV9.out (F6.out.trans F8.out.up) Q8.out hbz HD9.out
  ·
   have q0:(cc==0)=false:=by simpa using hcc
   rw[if_neg hcc,if_neg hcc]
   clear hcc
   have F0:=zF w
   have Q0:=zQ w
   obtain⟨d0,d1,d2⟩:=DG.out _ F0.out
   have dw:=F0.out.cell (HAT.out 0 (by omega)) (by simp)
   rw[Nat.add_zero] at dw
   go_enter Tryz.func130,Tryz.ntmps130
   go_wp2_with fail
   refine(DI.out _ F0.out).mono ?_
   rintro e1 w1 ⟨xv,rfl,hi,f1⟩
   have F1:=hid (F0.out.trans f1)
   have Q1:=hid (Q0.out.fr f1 (by simp))
   have HI:=hid hi
   obtain⟨X1,x1,X2,x2,X3,x3,rfl⟩:=hi.form
   have hz1:=f1.size
   simp at hz1
   clear f1 hi d0 d1 d2 dw
   have C1:=zC1 Q1 HI H F1
   have CC:=hid C1.out
   obtain⟨d0,d1,d2,d3,d4⟩:=five CC.out.b
   go_wp2_with fail
   refine(OP.out _ _ CC.out.i.item).mono ?_
   rintro eq wq ⟨yv,rfl,hy,fq⟩
   have CN:=hid (CC.out.go fq)
   have HY:=hid (hy.less (show B0≤_ from CC.out.d.bz))
   obtain⟨Y1,y1,Y2,y2,Y3,y3,rfl⟩:=hy.form
   clear CC hy fq d0 d1 d2 d3 d4
   have CC:=hid (CN.out.go ((Fr.refl [] wq).alloc (.cells #[.int .i64 y.kind,.string y.text,.slice Y1 y.list.length y1,.slice Y2 y.pairs.length y2,.slice Y3 y.scores.length y3] 43)))
   have VB:=hid (Whole.new wq 43 [.int .i64 y.kind,.string y.text,.slice Y1 y.list.length y1,.slice Y2 y.pairs.length y2,.slice Y3 y.scores.length y3])
   have HY2:=hid (HY.out.go ((Fr.refl [] wq).alloc (.cells #[.int .i64 y.kind,.string y.text,.slice Y1 y.list.length y1,.slice Y2 y.pairs.length y2,.slice Y3 y.scores.length y3] 43)))
   have hzq:=CN.out.f.size
   obtain⟨m0,m1,m2,m3,m4⟩:=five VB.out
   clear m0 m1 m2 m3 m4
   go_wp2_with fail
   refine(z7t _ _).mono ?_
   rintro e7 w7 ⟨rfl,f7⟩
   have C7:=hid (CC.out.go f7)
   clear f7
   go_wp2_with fail
   refine(z4r (z1b tt) _ cc true (w.heap.size+1) _ (z1f.bare _ _ _ _ _)).mono ?_
   rintro e8 w8 ⟨rfl,f8⟩
   have C8:=hid (C7.out.go f8)
   have HV:=hid (show z1f w8 (w.heap.size+1) (orV (.agg #[.int .i64 4,.string tt,.int .i64 0,.slice none 0 0]) cc true) (orR (z1b tt) cc true) from z8n (z1f.bare _ _ _ _ _) cc true)
   clear f8
   obtain⟨S,sc9,hS⟩:=HV.out.form
   have HS9:=hid hS
   clear hS
   rw[HS9.out]
   have HV9:=hid (show z1f _ _ (.agg #[.int .i64 (orR (z1b tt) cc true).kind,.string (orR (z1b tt) cc true).text,.int .i64 (orR (z1b tt) cc true).n,.slice S (orR (z1b tt) cc true).list.length sc9]) (orR (z1b tt) cc true) from by have:=HV.out;rw[HS9.out] at this;exact this)
   generalize orR (z1b tt) cc true=q9 at *
   obtain⟨y0,y1,y2,y3⟩:=four C8.out.q
   obtain⟨z0,z1,z2,z3⟩:=z0w C8.out.q
   go_wp2
   refine bodyPost_ret (v:=.agg #[.int .i64 q9.kind,.string q9.text,.int .i64 q9.n,.slice S q9.list.length sc9]) (by simp[results,Tryz.results130,go_sem,y0,y1,y2,y3]) rfl ?_
   exact ChD.fin4 HV9.out C8.out.f.up C8.out.q hbz (fun _=>⟨_,C8.out.d⟩)
theorem zni{S:List Nat}{a b:World}{n:Nat}(h:Fr S a b)(hn:n < a.heap.size):¬n=b.heap.size∧¬b.heap.size=n:=by
 have:=h.size
 constructor <;> omega
theorem zp5(g B0:Nat)(sv:Value)(now:Int)(lv:Value)(l:List ByteArray)(s:List Ent)(c0:ByteArray)(w:World)(ok:z1m s)(hn:2≤l.length)(h12:l.length≤11)(hz:∀t∈l,t.size≤60)(n1:Int)(h1:z3v (wd l 1).data.toList=some n1)(hv:Vars w)(h:Dr g B0 sv now lv l s w) :
  Calls prog 128 #[.pointer (some ⟨g,0,none⟩),.string ⟨#[105,110,99,114,98,121]⟩] w (ChD g B0 B0 sv now lv l (doC .incrby s now (c0 :: l)) w):=by
 have hr:=ok.rise
 have hs16:=ok.le
 have DI:=zDI hr hs16 h
 have LS:=hid (z0a (z07 ok) now (wd l 0)).item
 have hzw:∀i,(wd l i).size≤60:=z0s hz
 have en1:wn (c0 :: l) 2=n1:=by show(z3v (wd l 1).data.toList).getD 0=n1;rw[h1];rfl
 have bn1:=z74 h1
 have I1:=hid (fun W (hW:Fr [] w W)=>(show Calls prog 174 #[.pointer (some ⟨g,0,none⟩),.int .i64 1] W (fun e w'=>e=.returned (.int .i64 n1)∧Fr [] W w') from z38 g B0 sv now lv l s 1 n1 W (by omega) (fun t ht=>by have:=hz t ht;omega) h1 (hv.fr hW) (h.go hW)))
 have HVV:=hid hv
 clear h1 hv
 have EP:doC .incrby s now (c0 :: l)=fin s now (wd l 0) (adY (z00 s now (wd l 0)).item n1) (z00 s now (wd l 0)).til true false (z3r (z00 s now (wd l 0)).item n1) (z0h (adN (z00 s now (wd l 0)).item n1)):=by
  show fin s now (wd l 0) (adY (z00 s now (wd l 0)).item (wn (c0 :: l) 2)) (z00 s now (wd l 0)).til true false (z3r (z00 s now (wd l 0)).item (wn (c0 :: l) 2)) (z0h (adN (z00 s now (wd l 0)).item (wn (c0 :: l) 2)))=_
  rw[en1]
 have SY:=hid (show(adY (z00 s now (wd l 0)).item n1).Small from zpp)
 have OP:=hid (fun W u (hW:Fr [] w W) (k:z0q W W.heap.size u (z00 s now (wd l 0)).item)=>zsd (z00 s now (wd l 0)).item u n1 W W.heap.size LS.out (Nat.le_refl _) k bn1 (HVV.out.fr hW))
 have CH:=zCH g B0 sv now lv l s w (adY (z00 s now (wd l 0)).item n1) (z0h (adN (z00 s now (wd l 0)).item n1)) (z3r (z00 s now (wd l 0)).item n1) ok (by omega) SY
 rw[EP]
 clear EP SY en1
 have H:=hid h
 have hlt:=h.lt
 have hbz:=h.bz
 obtain⟨SA,sc,rfl⟩:=h.sform
 obtain⟨LA,lc,rfl⟩:=h.lform
 obtain⟨b,off,rfl,hb,hc,hm,hat⟩:=h.word (by omega)
 have HAT:=hid hat
 have DG:=hid (fun W (hW:Fr [] w W)=>(h.go hW).three)
 unfold maxLen at hm
 clear h hr hat hzw ok
 generalize fin s now (wd l 0) (adY (z00 s now (wd l 0)).item n1) (z00 s now (wd l 0)).til true false (z3r (z00 s now (wd l 0)).item n1) (z0h (adN (z00 s now (wd l 0)).item n1))=pp at *
 generalize adY (z00 s now (wd l 0)).item n1=y at *
 generalize z3r (z00 s now (wd l 0)).item n1=cc at *
 generalize adN (z00 s now (wd l 0)).item n1=nn at *
 generalize (z00 s now (wd l 0)).item=x at *
 have F0:=zF w
 have Q0:=zQ w
 obtain⟨d0,d1,d2⟩:=DG.out _ F0.out
 have dw:=F0.out.cell (HAT.out 0 (by omega)) (by simp)
 rw[Nat.add_zero] at dw
 go_enter Tryz.func128,Tryz.ntmps128
 go_wp2_with fail
 refine(DI.out _ F0.out).mono ?_
 rintro e1 w1 ⟨xv,rfl,hi,f1⟩
 have F1:=hid (F0.out.trans f1)
 have Q1:=hid (Q0.out.fr f1 (by simp))
 have HI:=hid hi
 obtain⟨X1,x1,X2,x2,X3,x3,rfl⟩:=hi.form
 have hz1:=f1.size
 simp at hz1
 clear f1 hi d0 d1 d2 dw
 have C1:=zC1 Q1 HI H F1
 obtain⟨d0,d1,d2,d3,d4⟩:=five C1.out.b
 have C2:=hid (C1.out.go ((Fr.refl [] _).alloc (.cells #[.int .i64 0,.string ⟨#[]⟩,.slice none 0 0,.slice none 0 0,.slice none 0 0] 43)))
 obtain⟨h0,h1,h2,h3,h4⟩:=five C2.out.b
 have V2:=hid (z3s w1 (.cells #[.int .i64 x.kind,.string x.text,.slice X1 x.list.length x1,.slice X2 x.pairs.length x2,.slice X3 x.scores.length x3] 43) 43 [.int .i64 0,.string ⟨#[]⟩,.slice none 0 0,.slice none 0 0,.slice none 0 0])
 go_upto_region 17 with fail
 go_cut [13,14,15] (fun pb pn pe wx=>pn=.int .i64 nn∧pe=.int .i64 cc∧z8t B0 y (w1.alloc (.cells #[.int .i64 x.kind,.string x.text,.slice X1 x.list.length x1,.slice X2 x.pairs.length x2,.slice X3 x.scores.length x3] 43)) pb wx)
 case first=>
  go_region_held3 (fun wx=>wx.cell? ⟨w1.heap.size,0,none⟩=some (.int .i64 x.kind)∧wx.cell? ⟨w1.heap.size,1,none⟩=some (.string x.text)∧wx.cell? ⟨w1.heap.size,2,none⟩=some (.slice X1 x.list.length x1)∧wx.cell? ⟨w1.heap.size,3,none⟩=some (.slice X2 x.pairs.length x2)∧wx.cell? ⟨w1.heap.size,4,none⟩=some (.slice X3 x.scores.length x3)) (go_keep) ((first|(go_at_call 174;(first|((with_reducible refine(I1.out _ ((C1.out.go FB.out)).f).mono ?_);rintro eq wq ⟨rfl,fq⟩;have FN:=hid (FB.out.trans fq);clear FB;have FB:=FN;clear FN CC;(first|(have VN:=hid (VB.out.fr fq (by simp));clear VB;have VB:=VN;clear VN)|skip))|((with_reducible refine(I1.out _ ((C1.out.go (FB.out.alloc (.cells #[.int .i64 0,.string ⟨#[]⟩,.slice none 0 0,.slice none 0 0,.slice none 0 0] 43)))).f).mono ?_);rintro eq wq ⟨rfl,fq⟩;obtain⟨ne1,ne2⟩:=zni (n:=w1.heap.size) FB.out (by simp);have HG:=hid FB.out.size;have FN:=hid ((FB.out.alloc (.cells #[.int .i64 0,.string ⟨#[]⟩,.slice none 0 0,.slice none 0 0,.slice none 0 0] 43)).trans fq);have VB:=hid (Whole.fr (Whole.new _ 43 [.int .i64 0,.string ⟨#[]⟩,.slice none 0 0,.slice none 0 0,.slice none 0 0]) fq (by simp));clear FB;have FB:=FN;clear FN CC)|((with_reducible refine(I1.out _ ((C1.out.go (Fr.refl [] _).drew)).f).mono ?_);rintro eq wq ⟨rfl,fq⟩;have FB:=hid ((Fr.refl [] (w1.alloc (.cells #[.int .i64 x.kind,.string x.text,.slice X1 x.list.length x1,.slice X2 x.pairs.length x2,.slice X3 x.scores.length x3] 43))).drew.trans fq))|((with_reducible refine(I1.out _ (C2.out.drew).f).mono ?_);rintro eq wq ⟨rfl,fq⟩;have FB:=hid (((Fr.refl [] (w1.alloc (.cells #[.int .i64 x.kind,.string x.text,.slice X1 x.list.length x1,.slice X2 x.pairs.length x2,.slice X3 x.scores.length x3] 43))).alloc (.cells #[.int .i64 0,.string ⟨#[]⟩,.slice none 0 0,.slice none 0 0,.slice none 0 0] 43)).drew.trans fq);have VB:=hid (V2.out.fr (z01 fq) (by simp));have HG:=hid (show(w1.alloc (.cells #[.int .i64 x.kind,.string x.text,.slice X1 x.list.length x1,.slice X2 x.pairs.length x2,.slice X3 x.scores.length x3] 43)).heap.size≤w1.heap.size+1 from by simp)));have CC:=hid (C1.out.go FB.out);(first|(have w7:=VB.out.lt;clear w7;have y7:=five VB.out;have z7:=z10 VB.out)|skip);obtain⟨k0,k1,k2,k3,k4⟩:=five CC.out.b;clear fq)|(go_at_call 173;(first|((with_reducible refine(OP.out _ _ (C1.out.go FB.out).f (C1.out.go FB.out).i.item).mono ?_);rintro eq wq ⟨yv,rfl,hy,fq⟩;have HY:=hid (hy.less (show B0≤_ from((C1.out.go FB.out)).d.bz));have FN:=hid (FB.out.trans fq);clear FB;have FB:=FN;clear FN CC;(first|(have VN:=hid (VB.out.fr fq (by simp));clear VB;have VB:=VN;clear VN)|skip))|((with_reducible refine(OP.out _ _ ((C1.out.go (FB.out.alloc (.cells #[.int .i64 0,.string ⟨#[]⟩,.slice none 0 0,.slice none 0 0,.slice none 0 0] 43)))).f ((C1.out.go (FB.out.alloc (.cells #[.int .i64 0,.string ⟨#[]⟩,.slice none 0 0,.slice none 0 0,.slice none 0 0] 43)))).i.item).mono ?_);rintro eq wq ⟨yv,rfl,hy,fq⟩;have HY:=hid (hy.less (show B0≤_ from((C1.out.go (FB.out.alloc (.cells #[.int .i64 0,.string ⟨#[]⟩,.slice none 0 0,.slice none 0 0,.slice none 0 0] 43)))).d.bz));obtain⟨ne1,ne2⟩:=zni (n:=w1.heap.size) FB.out (by simp);have HG:=hid FB.out.size;have FN:=hid ((FB.out.alloc (.cells #[.int .i64 0,.string ⟨#[]⟩,.slice none 0 0,.slice none 0 0,.slice none 0 0] 43)).trans fq);have VB:=hid (Whole.fr (Whole.new _ 43 [.int .i64 0,.string ⟨#[]⟩,.slice none 0 0,.slice none 0 0,.slice none 0 0]) fq (by simp));clear FB;have FB:=FN;clear FN CC)|((with_reducible refine(OP.out _ _ ((C1.out.go (Fr.refl [] _).drew)).f ((C1.out.go (Fr.refl [] _).drew)).i.item).mono ?_);rintro eq wq ⟨yv,rfl,hy,fq⟩;have HY:=hid (hy.less (show B0≤_ from((C1.out.go (Fr.refl [] _).drew)).d.bz));have FB:=hid ((Fr.refl [] (w1.alloc (.cells #[.int .i64 x.kind,.string x.text,.slice X1 x.list.length x1,.slice X2 x.pairs.length x2,.slice X3 x.scores.length x3] 43))).drew.trans fq))|((with_reducible refine(OP.out _ _ (C2.out.drew).f (C2.out.drew).i.item).mono ?_);rintro eq wq ⟨yv,rfl,hy,fq⟩;have HY:=hid (hy.less (show B0≤_ from(C2.out.drew).d.bz));have FB:=hid (((Fr.refl [] (w1.alloc (.cells #[.int .i64 x.kind,.string x.text,.slice X1 x.list.length x1,.slice X2 x.pairs.length x2,.slice X3 x.scores.length x3] 43))).alloc (.cells #[.int .i64 0,.string ⟨#[]⟩,.slice none 0 0,.slice none 0 0,.slice none 0 0] 43)).drew.trans fq);have VB:=hid (V2.out.fr (z01 fq) (by simp));have HG:=hid (show(w1.alloc (.cells #[.int .i64 x.kind,.string x.text,.slice X1 x.list.length x1,.slice X2 x.pairs.length x2,.slice X3 x.scores.length x3] 43)).heap.size≤w1.heap.size+1 from by simp)));have CC:=hid (C1.out.go FB.out);obtain⟨A1,c1,A2,c2,A3,c3,rfl⟩:=hy.form;clear hy;(first|(have w7:=VB.out.lt;clear w7;have y7:=five VB.out;have z7:=z10 VB.out)|skip);obtain⟨k0,k1,k2,k3,k4⟩:=five CC.out.b;clear fq)))
  all_goals
   go_wp2
   go_meet
   case rel=>first|with_reducible exact⟨rfl,rfl,z8t.new HY.out FB.out⟩|exact⟨rfl,rfl,z8t.put HY.out FB.out HG.out VB.out⟩
 clear d0 d1 d2 d3 d4 h0 h1 h2 h3 h4
 obtain⟨rfl,rfl,gb,A1,c1,A2,c2,A3,c3,rfl,hgb,hw,hy,hf⟩:=hcut
 have HY:=hid hy
 have VB:=hid hw
 have C4:=hid (C1.out.go hf)
 have hgz:w.heap.size < gb:=by have:=C1.out.f.size;simp at hgb;have:=C1.out.gx;omega
 clear hw hy hf hgb
 obtain⟨m0,m1,m2,m3,m4⟩:=five VB.out
 go_upto_region 18 with fail
 go_region_held3 (fun wx=>wx.cell? ⟨gb,0,none⟩=some (.int .i64 y.kind)∧wx.cell? ⟨gb,1,none⟩=some (.string y.text)∧wx.cell? ⟨gb,2,none⟩=some (.slice A1 y.list.length c1)∧wx.cell? ⟨gb,3,none⟩=some (.slice A2 y.pairs.length c2)∧wx.cell? ⟨gb,4,none⟩=some (.slice A3 y.scores.length c3)) (go_keep) ((first|(go_at_call 171;refine(z0j _ _).mono ?_;rintro e5 w5 ⟨rfl,f5⟩;have C5:=hid (C4.out.go (z01 f5));have VB5:=hid (VB.out.fr (z01 f5) (by simp));have HY5:=hid (HY.out.go (z01 f5));clear f5 m0 m1 m2 m3 m4;obtain⟨m0,m1,m2,m3,m4⟩:=five VB5.out)|(go_at_call 170;refine(CH.out _ _ _ C5.out.d HY5.out (z1f.bare _ _ _ _ _)).mono ?_;rintro e6 w6 ⟨u,rfl,hu,f6,hd⟩;obtain⟨R,rc,rfl⟩:=hu.form;have VB6:=hid (VB5.out.fr f6 (fun hm=>by have:=(H.out.low _ hm).2;omega));have Q6:=hid (C5.out.q.fr f6 (fun hm=>by have:=(H.out.low _ hm).2;omega));have HU:=hid hu;have HD:=hid hd;have F6:=hid (C5.out.f.up.trans f6);clear f6 hu hd m0 m1 m2 m3 m4;obtain⟨m0,m1,m2,m3,m4⟩:=five VB6.out;obtain⟨y0,y1,y2,y3⟩:=four Q6.out;obtain⟨z0,z1,z2,z3⟩:=z0w Q6.out;have hgz1:¬gb=w.heap.size:=(by omega);have hgz2:¬w.heap.size=gb:=(by omega))))
 obtain⟨sp,pr⟩:=pp
 go_wp2
 refine bodyPost_ret (v:=.agg #[.int .i64 pr.kind,.string pr.text,.int .i64 pr.n,.slice R pr.list.length rc]) (by simp[results,Tryz.results128,go_sem,y0,y1,y2,y3]) rfl ?_
 exact ChD.fin4 HU.out F6.out Q6.out hbz HD.out
theorem zsy(g B0:Nat)(sv:Value)(now:Int)(lv:Value)(l:List ByteArray)(s:List Ent)(c0:ByteArray)(w:World)(ok:z1m s)(hn:3≤l.length)(h12:l.length≤11)(hz:∀t∈l,t.size≤60)(n1:Int)(h1:z3v (wd l 1).data.toList=some n1)(n2:Int)(h2:z3v (wd l 2).data.toList=some n2)(hv:Vars w)(h:Dr g B0 sv now lv l s w) :
  Calls prog 130 #[.pointer (some ⟨g,0,none⟩),.string ⟨#[108,116,114,105,109]⟩] w (ChD g B0 B0 sv now lv l (doC .ltrim s now (c0 :: l)) w):=by
 have hr:=ok.rise
 have hs16:=ok.le
 have DI:=zDI hr hs16 h
 have LS:=hid (z0a (z07 ok) now (wd l 0)).item
 have hzw:∀i,(wd l i).size≤60:=z0s hz
 have en1:wn (c0 :: l) 2=n1:=by show(z3v (wd l 1).data.toList).getD 0=n1;rw[h1];rfl
 have bn1:=z74 h1
 have I1:=hid (fun W (hW:Fr [] w W)=>(show Calls prog 174 #[.pointer (some ⟨g,0,none⟩),.int .i64 1] W (fun e w'=>e=.returned (.int .i64 n1)∧Fr [] W w') from z38 g B0 sv now lv l s 1 n1 W (by omega) (fun t ht=>by have:=hz t ht;omega) h1 (hv.fr hW) (h.go hW)))
 have en2:wn (c0 :: l) 3=n2:=by show(z3v (wd l 2).data.toList).getD 0=n2;rw[h2];rfl
 have bn2:=z74 h2
 have I2:=hid (fun W (hW:Fr [] w W)=>(show Calls prog 174 #[.pointer (some ⟨g,0,none⟩),.int .i64 2] W (fun e w'=>e=.returned (.int .i64 n2)∧Fr [] W w') from z38 g B0 sv now lv l s 2 n2 W (by omega) (fun t ht=>by have:=hz t ht;omega) h2 (hv.fr hW) (h.go hW)))
 clear h1 h2 hv
 have EP:doC .ltrim s now (c0 :: l)=fin s now (wd l 0) (ofL (z2i (z00 s now (wd l 0)).item n1 n2)) (z00 s now (wd l 0)).til true false (z02 2 (z00 s now (wd l 0)).item) (z2x tOK):=by
  show fin s now (wd l 0) (ofL (z29 ((z00 s now (wd l 0)).item).list (wn (c0 :: l) 2) (wn (c0 :: l) 3))) (z00 s now (wd l 0)).til true false (z02 2 (z00 s now (wd l 0)).item) (z2x tOK)=_
  rw[en1,en2]
  by_cases h0:z02 2 (z00 s now (wd l 0)).item=0
  ·unfold z2i
   rw[if_pos h0]
  ·unfold fin
   rw[if_neg h0,if_neg h0]
 have SY:=hid (show(ofL (z2i (z00 s now (wd l 0)).item n1 n2)).Small from z9g (by have:=(zcw (z00 s now (wd l 0)).item n1 n2).1;omega) (zcw (z00 s now (wd l 0)).item n1 n2).2)
 have OP:=hid (fun W u (k:z0q W W.heap.size u (z00 s now (wd l 0)).item)=>zg4 (z00 s now (wd l 0)).item u n1 n2 W W.heap.size LS.out (Nat.le_refl _) k bn1 bn2)
 have CH:=zCH g B0 sv now lv l s w (ofL (z2i (z00 s now (wd l 0)).item n1 n2)) (z2x tOK) (z02 2 (z00 s now (wd l 0)).item) ok (by omega) SY
 rw[EP]
 clear EP SY en1 en2
 have H:=hid h
 have hlt:=h.lt
 have hbz:=h.bz
 obtain⟨SA,sc,rfl⟩:=h.sform
 obtain⟨LA,lc,rfl⟩:=h.lform
 obtain⟨b,off,rfl,hb,hc,hm,hat⟩:=h.word (by omega)
 have HAT:=hid hat
 have DG:=hid (fun W (hW:Fr [] w W)=>(h.go hW).three)
 unfold maxLen at hm
 clear h hr hat hzw ok
 generalize fin s now (wd l 0) (ofL (z2i (z00 s now (wd l 0)).item n1 n2)) (z00 s now (wd l 0)).til true false (z02 2 (z00 s now (wd l 0)).item) (z2x tOK)=pp at *
 generalize ofL (z2i (z00 s now (wd l 0)).item n1 n2)=y at *
 generalize z02 2 (z00 s now (wd l 0)).item=cc at *
 generalize (z00 s now (wd l 0)).item=x at *
 have F0:=zF w
 have Q0:=zQ w
 obtain⟨d0,d1,d2⟩:=DG.out _ F0.out
 have dw:=F0.out.cell (HAT.out 0 (by omega)) (by simp)
 rw[Nat.add_zero] at dw
 go_enter Tryz.func130,Tryz.ntmps130
 go_wp2_with fail
 refine(DI.out _ F0.out).mono ?_
 rintro e1 w1 ⟨xv,rfl,hi,f1⟩
 have F1:=hid (F0.out.trans f1)
 have Q1:=hid (Q0.out.fr f1 (by simp))
 have HI:=hid hi
 obtain⟨X1,x1,X2,x2,X3,x3,rfl⟩:=hi.form
 have hz1:=f1.size
 simp at hz1
 clear f1 hi d0 d1 d2 dw
 have C1:=zC1 Q1 HI H F1
 obtain⟨d0,d1,d2,d3,d4⟩:=five C1.out.b
 have C2:=hid (C1.out.go ((Fr.refl [] _).alloc (.cells #[.int .i64 0,.string ⟨#[]⟩,.slice none 0 0,.slice none 0 0,.slice none 0 0] 43)))
 obtain⟨h0,h1,h2,h3,h4⟩:=five C2.out.b
 have V2:=hid (z3s w1 (.cells #[.int .i64 x.kind,.string x.text,.slice X1 x.list.length x1,.slice X2 x.pairs.length x2,.slice X3 x.scores.length x3] 43) 43 [.int .i64 0,.string ⟨#[]⟩,.slice none 0 0,.slice none 0 0,.slice none 0 0])
 go_upto_region 16 with fail
 go_cut [12,13] (fun pb pe wx=>pe=.int .i64 cc∧z8t B0 y (w1.alloc (.cells #[.int .i64 x.kind,.string x.text,.slice X1 x.list.length x1,.slice X2 x.pairs.length x2,.slice X3 x.scores.length x3] 43)) pb wx)
 case first=>
  go_region_held3 (fun wx=>wx.cell? ⟨w1.heap.size,0,none⟩=some (.int .i64 x.kind)∧wx.cell? ⟨w1.heap.size,1,none⟩=some (.string x.text)∧wx.cell? ⟨w1.heap.size,2,none⟩=some (.slice X1 x.list.length x1)∧wx.cell? ⟨w1.heap.size,3,none⟩=some (.slice X2 x.pairs.length x2)∧wx.cell? ⟨w1.heap.size,4,none⟩=some (.slice X3 x.scores.length x3)) (go_keep) ((first|(go_at_call 174;(first|((with_reducible refine(I1.out _ ((C1.out.go FB.out)).f).mono ?_);rintro eq wq ⟨rfl,fq⟩;have FN:=hid (FB.out.trans fq);clear FB;have FB:=FN;clear FN CC;(first|(have VN:=hid (VB.out.fr fq (by simp));clear VB;have VB:=VN;clear VN)|skip))|((with_reducible refine(I1.out _ ((C1.out.go (FB.out.alloc (.cells #[.int .i64 0,.string ⟨#[]⟩,.slice none 0 0,.slice none 0 0,.slice none 0 0] 43)))).f).mono ?_);rintro eq wq ⟨rfl,fq⟩;obtain⟨ne1,ne2⟩:=zni (n:=w1.heap.size) FB.out (by simp);have HG:=hid FB.out.size;have FN:=hid ((FB.out.alloc (.cells #[.int .i64 0,.string ⟨#[]⟩,.slice none 0 0,.slice none 0 0,.slice none 0 0] 43)).trans fq);have VB:=hid (Whole.fr (Whole.new _ 43 [.int .i64 0,.string ⟨#[]⟩,.slice none 0 0,.slice none 0 0,.slice none 0 0]) fq (by simp));clear FB;have FB:=FN;clear FN CC)|((with_reducible refine(I1.out _ ((C1.out.go (Fr.refl [] _).drew)).f).mono ?_);rintro eq wq ⟨rfl,fq⟩;have FB:=hid ((Fr.refl [] (w1.alloc (.cells #[.int .i64 x.kind,.string x.text,.slice X1 x.list.length x1,.slice X2 x.pairs.length x2,.slice X3 x.scores.length x3] 43))).drew.trans fq))|((with_reducible refine(I1.out _ (C2.out.drew).f).mono ?_);rintro eq wq ⟨rfl,fq⟩;have FB:=hid (((Fr.refl [] (w1.alloc (.cells #[.int .i64 x.kind,.string x.text,.slice X1 x.list.length x1,.slice X2 x.pairs.length x2,.slice X3 x.scores.length x3] 43))).alloc (.cells #[.int .i64 0,.string ⟨#[]⟩,.slice none 0 0,.slice none 0 0,.slice none 0 0] 43)).drew.trans fq);have VB:=hid (V2.out.fr (z01 fq) (by simp));have HG:=hid (show(w1.alloc (.cells #[.int .i64 x.kind,.string x.text,.slice X1 x.list.length x1,.slice X2 x.pairs.length x2,.slice X3 x.scores.length x3] 43)).heap.size≤w1.heap.size+1 from by simp))|((with_reducible refine(I2.out _ ((C1.out.go FB.out)).f).mono ?_);rintro eq wq ⟨rfl,fq⟩;have FN:=hid (FB.out.trans fq);clear FB;have FB:=FN;clear FN CC;(first|(have VN:=hid (VB.out.fr fq (by simp));clear VB;have VB:=VN;clear VN)|skip))|((with_reducible refine(I2.out _ ((C1.out.go (FB.out.alloc (.cells #[.int .i64 0,.string ⟨#[]⟩,.slice none 0 0,.slice none 0 0,.slice none 0 0] 43)))).f).mono ?_);rintro eq wq ⟨rfl,fq⟩;obtain⟨ne1,ne2⟩:=zni (n:=w1.heap.size) FB.out (by simp);have HG:=hid FB.out.size;have FN:=hid ((FB.out.alloc (.cells #[.int .i64 0,.string ⟨#[]⟩,.slice none 0 0,.slice none 0 0,.slice none 0 0] 43)).trans fq);have VB:=hid (Whole.fr (Whole.new _ 43 [.int .i64 0,.string ⟨#[]⟩,.slice none 0 0,.slice none 0 0,.slice none 0 0]) fq (by simp));clear FB;have FB:=FN;clear FN CC)|((with_reducible refine(I2.out _ ((C1.out.go (Fr.refl [] _).drew)).f).mono ?_);rintro eq wq ⟨rfl,fq⟩;have FB:=hid ((Fr.refl [] (w1.alloc (.cells #[.int .i64 x.kind,.string x.text,.slice X1 x.list.length x1,.slice X2 x.pairs.length x2,.slice X3 x.scores.length x3] 43))).drew.trans fq))|((with_reducible refine(I2.out _ (C2.out.drew).f).mono ?_);rintro eq wq ⟨rfl,fq⟩;have FB:=hid (((Fr.refl [] (w1.alloc (.cells #[.int .i64 x.kind,.string x.text,.slice X1 x.list.length x1,.slice X2 x.pairs.length x2,.slice X3 x.scores.length x3] 43))).alloc (.cells #[.int .i64 0,.string ⟨#[]⟩,.slice none 0 0,.slice none 0 0,.slice none 0 0] 43)).drew.trans fq);have VB:=hid (V2.out.fr (z01 fq) (by simp));have HG:=hid (show(w1.alloc (.cells #[.int .i64 x.kind,.string x.text,.slice X1 x.list.length x1,.slice X2 x.pairs.length x2,.slice X3 x.scores.length x3] 43)).heap.size≤w1.heap.size+1 from by simp)));have CC:=hid (C1.out.go FB.out);(first|(have w7:=VB.out.lt;clear w7;have y7:=five VB.out;have z7:=z10 VB.out)|skip);obtain⟨k0,k1,k2,k3,k4⟩:=five CC.out.b;clear fq)|(go_at_call 185;(first|((with_reducible refine(OP.out _ _ ((C1.out.go FB.out)).i.item).mono ?_);rintro eq wq ⟨yv,rfl,hy,fq⟩;have HY:=hid (hy.less (show B0≤_ from((C1.out.go FB.out)).d.bz));have FN:=hid (FB.out.trans fq);clear FB;have FB:=FN;clear FN CC;(first|(have VN:=hid (VB.out.fr fq (by simp));clear VB;have VB:=VN;clear VN)|skip))|((with_reducible refine(OP.out _ _ ((C1.out.go (FB.out.alloc (.cells #[.int .i64 0,.string ⟨#[]⟩,.slice none 0 0,.slice none 0 0,.slice none 0 0] 43)))).i.item).mono ?_);rintro eq wq ⟨yv,rfl,hy,fq⟩;have HY:=hid (hy.less (show B0≤_ from((C1.out.go (FB.out.alloc (.cells #[.int .i64 0,.string ⟨#[]⟩,.slice none 0 0,.slice none 0 0,.slice none 0 0] 43)))).d.bz));obtain⟨ne1,ne2⟩:=zni (n:=w1.heap.size) FB.out (by simp);have HG:=hid FB.out.size;have FN:=hid ((FB.out.alloc (.cells #[.int .i64 0,.string ⟨#[]⟩,.slice none 0 0,.slice none 0 0,.slice none 0 0] 43)).trans fq);have VB:=hid (Whole.fr (Whole.new _ 43 [.int .i64 0,.string ⟨#[]⟩,.slice none 0 0,.slice none 0 0,.slice none 0 0]) fq (by simp));clear FB;have FB:=FN;clear FN CC)|((with_reducible refine(OP.out _ _ ((C1.out.go (Fr.refl [] _).drew)).i.item).mono ?_);rintro eq wq ⟨yv,rfl,hy,fq⟩;have HY:=hid (hy.less (show B0≤_ from((C1.out.go (Fr.refl [] _).drew)).d.bz));have FB:=hid ((Fr.refl [] (w1.alloc (.cells #[.int .i64 x.kind,.string x.text,.slice X1 x.list.length x1,.slice X2 x.pairs.length x2,.slice X3 x.scores.length x3] 43))).drew.trans fq))|((with_reducible refine(OP.out _ _ (C2.out.drew).i.item).mono ?_);rintro eq wq ⟨yv,rfl,hy,fq⟩;have HY:=hid (hy.less (show B0≤_ from(C2.out.drew).d.bz));have FB:=hid (((Fr.refl [] (w1.alloc (.cells #[.int .i64 x.kind,.string x.text,.slice X1 x.list.length x1,.slice X2 x.pairs.length x2,.slice X3 x.scores.length x3] 43))).alloc (.cells #[.int .i64 0,.string ⟨#[]⟩,.slice none 0 0,.slice none 0 0,.slice none 0 0] 43)).drew.trans fq);have VB:=hid (V2.out.fr (z01 fq) (by simp));have HG:=hid (show(w1.alloc (.cells #[.int .i64 x.kind,.string x.text,.slice X1 x.list.length x1,.slice X2 x.pairs.length x2,.slice X3 x.scores.length x3] 43)).heap.size≤w1.heap.size+1 from by simp)));have CC:=hid (C1.out.go FB.out);obtain⟨A1,c1,A2,c2,A3,c3,rfl⟩:=hy.form;clear hy;(first|(have w7:=VB.out.lt;clear w7;have y7:=five VB.out;have z7:=z10 VB.out)|skip);obtain⟨k0,k1,k2,k3,k4⟩:=five CC.out.b;clear fq)))
  all_goals
   go_wp2
   go_meet
   case rel=>first|with_reducible exact⟨rfl,z8t.new HY.out FB.out⟩|exact⟨rfl,z8t.put HY.out FB.out HG.out VB.out⟩
 clear d0 d1 d2 d3 d4 h0 h1 h2 h3 h4
 obtain⟨rfl,gb,A1,c1,A2,c2,A3,c3,rfl,hgb,hw,hy,hf⟩:=hcut
 have HY:=hid hy
 have VB:=hid hw
 have C4:=hid (C1.out.go hf)
 have hgz:w.heap.size < gb:=by have:=C1.out.f.size;simp at hgb;have:=C1.out.gx;omega
 clear hw hy hf hgb
 obtain⟨m0,m1,m2,m3,m4⟩:=five VB.out
 go_upto_region 17 with fail
 go_region_held3 (fun wx=>wx.cell? ⟨gb,0,none⟩=some (.int .i64 y.kind)∧wx.cell? ⟨gb,1,none⟩=some (.string y.text)∧wx.cell? ⟨gb,2,none⟩=some (.slice A1 y.list.length c1)∧wx.cell? ⟨gb,3,none⟩=some (.slice A2 y.pairs.length c2)∧wx.cell? ⟨gb,4,none⟩=some (.slice A3 y.scores.length c3)) (go_keep) ((first|(go_at_call 127;refine(zbv _ _).mono ?_;rintro e5 w5 ⟨rfl,f5⟩;have C5:=hid (C4.out.go (z01 f5));have VB5:=hid (VB.out.fr (z01 f5) (by simp));have HY5:=hid (HY.out.go (z01 f5));clear f5 m0 m1 m2 m3 m4;obtain⟨m0,m1,m2,m3,m4⟩:=five VB5.out)|(go_at_call 170;refine(CH.out _ _ _ C5.out.d HY5.out (z1f.bare _ _ _ _ _)).mono ?_;rintro e6 w6 ⟨u,rfl,hu,f6,hd⟩;obtain⟨R,rc,rfl⟩:=hu.form;have VB6:=hid (VB5.out.fr f6 (fun hm=>by have:=(H.out.low _ hm).2;omega));have Q6:=hid (C5.out.q.fr f6 (fun hm=>by have:=(H.out.low _ hm).2;omega));have HU:=hid hu;have HD:=hid hd;have F6:=hid (C5.out.f.up.trans f6);clear f6 hu hd m0 m1 m2 m3 m4;obtain⟨m0,m1,m2,m3,m4⟩:=five VB6.out;obtain⟨y0,y1,y2,y3⟩:=four Q6.out;obtain⟨z0,z1,z2,z3⟩:=z0w Q6.out;have hgz1:¬gb=w.heap.size:=(by omega);have hgz2:¬w.heap.size=gb:=(by omega))))
 obtain⟨sp,pr⟩:=pp
 go_wp2
 refine bodyPost_ret (v:=.agg #[.int .i64 pr.kind,.string pr.text,.int .i64 pr.n,.slice R pr.list.length rc]) (by simp[results,Tryz.results130,go_sem,y0,y1,y2,y3]) rfl ?_
 exact ChD.fin4 HU.out F6.out Q6.out hbz HD.out
end Go.Proofs.YtamgdmiopinidaaGreatDoor
