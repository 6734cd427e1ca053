/- Contracts that the proof of E3 uses. No condition beyond those in each theorem. -/
import Derived.Test.YtamgdmiopinidaaGreatDoorSlE338
set_option linter.unusedVariables false
set_option linter.unusedSimpArgs false
set_option maxHeartbeats 8000000
set_option maxRecDepth 100000
namespace Go.Proofs.YtamgdmiopinidaaGreatDoor
open Lib (hid)
open Go.Proofs.Tryz (prog)
open Go.RowKit
theorem zw9{l:List UInt8}{v:Int}(h:z3v l=some v):-999999999≤v∧v≤999999999:=by
 have:=(z6t.1 h).1
 simp only[z0m,Bool.and_eq_true,decide_eq_true_eq] at this
 omega
theorem zrz(g B0:Nat)(sv:Value)(now:Int)(lv:Value)(l:List ByteArray)(s:List Ent)(c0:ByteArray)(w:World)(ok:z1m s)(hn:1≤l.length)(h12:l.length≤11)(hz:∀t∈l,t.size≤60)(h0:0≤now∧now≤1000000)(h:Dr g B0 sv now lv l s w) :
  Calls prog 129 #[.pointer (some ⟨g,0,none⟩),.string ⟨#[107,101,121,115]⟩] w (ChD g B0 B0 sv now lv l (doC .keys_ s now (c0 :: l)) w):=by
 have hr:=ok.rise
 have hs16:=ok.le
 have DI:=zDI hr hs16 h
 have LS:=hid (z0a (z07 ok) now (wd l 0)).item
 have hzw:∀i,(wd l i).size≤60:=z0s hz
 have hat0:z0p s now ⟨#[]⟩=0:=by
  unfold z0p
  have ht:z3a now=true:=by unfold z3a;rw[decide_eq_true h0.1,decide_eq_true h0.2];rfl
  rw[if_neg (by simpa using zji ok),if_neg (by rw[ht];decide),if_neg (by decide)]
 have EP:doC .keys_ s now (c0 :: l)=(s,orR (z25 (zbi s now (wd l 0))) (zek s now (wd l 0)) false):=by
  show fin s now (wd l 0) (z00 s now (wd l 0)).item (z00 s now (wd l 0)).til false false (z0y (wd l 0)) (z25 (z8b s now (wd l 0)))=_
  have hcc:zek s now (wd l 0)=z0y (wd l 0):=if_pos hat0
  rw[z23,hcc]
  refine congrArg (Prod.mk s) (z7f fun h=>?_)
  unfold zbi
  rw[if_pos (hcc.trans h)]
 have LEN:(zbi s now (wd l 0)).length≤1000:=by have:=zp2 s now (wd l 0);omega
 have DL:=hid (fun(W:World) u (q:Sl W W.heap.size 1 u (zbi s now (wd l 0)).length (z03 (zbi s now (wd l 0))))=>z2o (zbi s now (wd l 0)) u (zek s now (wd l 0)) W LEN q)
 have SK:=hid (fun W v (q:z0v W W.heap.size v s)=>z9d s v now (wd l 0) W W.heap.size (z07 ok) (by omega) (by have:=hzw 0;omega) (Nat.le_refl _) q)
 rw[EP]
 clear EP LEN hat0
 have LK:=hid (fun W (hW:Fr [] w W)=>z1g s sv now (wd l 0) W B0 hr (by omega) (h.e.fr hW))
 have H:=hid h
 have hlt:=h.lt
 have hbz:=h.bz
 obtain⟨SA,sc,rfl⟩:=h.sform
 obtain⟨LA,lc,rfl⟩:=h.lform
 obtain⟨b,off,rfl,hb,hc,hm,hat⟩:=h.word (by omega)
 have HAT:=hid hat
 have DG:=hid (fun W (hW:Fr [] w W)=>(h.go hW).three)
 unfold maxLen at hm
 clear h hr hat hzw ok
 generalize zbi s now (wd l 0)=rr at *
 generalize zek s now (wd l 0)=cc at *
 generalize orR (z25 rr) cc false=q9 at *
 generalize z00 s now (wd l 0)=y at *
 generalize z1a s now (wd l 0)=bb at *
 have ix0:(0:Int) < (l.length:Int):=by omega
 clear DI
 have F0:=zF2 w g
 have P0:=zP0 w g
 have Q0:=zQ0 w g
 have F1:=hid (F0.out.alloc (.cells #[.string ⟨#[]⟩,.int .i64 0,.string ⟨#[]⟩,.slice none 0 0,.slice none 0 0,.slice none 0 0,.int .i64 0] 45))
 have V1:=zV1 w g
 have hn1:¬g=w.heap.size+1+1:=by omega
 have hn2:¬w.heap.size+1+1=g:=by omega
 have hn3:¬b=w.heap.size+1+1:=by omega
 have hn4:¬w.heap.size+1+1=b:=by omega
 have hn5:¬w.heap.size=w.heap.size+1+1:=by omega
 have hn6:¬w.heap.size+1+1=w.heap.size:=by omega
 have ix0n:0 < l.length:=by omega
 have p0:=P0.out.cell 0
 have p1:=(P0.out.alloc (.cells #[.string ⟨#[]⟩,.int .i64 0,.string ⟨#[]⟩,.slice none 0 0,.slice none 0 0,.slice none 0 0,.int .i64 0] 45)).cell 0
 obtain⟨d0,d1,d2⟩:=DG.out _ F0.out
 obtain⟨d3,d4,d5⟩:=DG.out _ F1.out
 have d6:=F0.out.cell (HAT.out 0 (by omega)) (by simp)
 have d7:=F1.out.cell (HAT.out 0 (by omega)) (by simp)
 rw[Nat.add_zero] at d6 d7
 go_enter Tryz.func129,Tryz.ntmps129
 go_upto_region 1 with fail
 go_cut [5,6] (fun pb po wx=>po=.bool bb∧z87 B0 y ((w.alloc (.cells #[.pointer (some ⟨g,0,none⟩)] 115)).alloc (.cells #[.int .i64 0,.string ⟨#[]⟩,.int .i64 0,.slice none 0 0] 27)) pb wx)
 case first=>
  go_region_held3 (fun wx=>wx.cell? ⟨w.heap.size,0,none⟩=some (.pointer (some ⟨g,0,none⟩))∧wx.cell? ⟨g,0,none⟩=some (.slice SA s.length sc)∧wx.cell? ⟨g,1,none⟩=some (.int .i64 now)∧wx.cell? ⟨g,2,none⟩=some (.slice (some ⟨b,off,none⟩) l.length lc)∧wx.cell? ⟨b,off,none⟩=some (.string (wd l 0))) (go_keep) ((go_at_call 105;first|(refine(LK.out _ F0.out.drew).mono ?_;rintro e1 w1 ⟨A1,c1,A2,c2,A3,c3,rfl,hc,f1⟩;have F2:=hid (z01 f1);have F3:=hid (F0.out.trans F2.out);have HC:=hid hc;obtain⟨z0,z1,z2⟩:=DG.out _ F3.out;have z3:=F3.out.cell (HAT.out 0 (by omega)) (by simp);rw[Nat.add_zero] at z3;have z4:=(P0.out.fr F2.out (by simp)).cell 0;clear f1 hc)|(refine(LK.out _ F1.out.drew).mono ?_;rintro e1 w1 ⟨A1,c1,A2,c2,A3,c3,rfl,hc,f1⟩;have F2:=hid (z2g (z01 f1));have F3:=hid (F1.out.trans (z01 f1));have HC:=hid hc;have V2:=hid (V1.out.fr (z01 f1) (by simp));obtain⟨z0,z1,z2⟩:=DG.out _ F3.out;have z3:=F3.out.cell (HAT.out 0 (by omega)) (by simp);rw[Nat.add_zero] at z3;have z4:=((P0.out.alloc (.cells #[.string ⟨#[]⟩,.int .i64 0,.string ⟨#[]⟩,.slice none 0 0,.slice none 0 0,.slice none 0 0,.int .i64 0] 45)).fr (z01 f1) (by simp)).cell 0;have y7:=seven V2.out;have z7:=z3p V2.out;clear f1 hc)))
  all_goals
   go_wp2
   go_meet
   case rel=>first|with_reducible exact⟨rfl,z87.new HC.out F2.out⟩|exact⟨rfl,z87.put HC.out F2.out (by simp) V2.out⟩
 clear d0 d1 d2 d3 d4 d5 d6 d7 p0 p1
 obtain⟨rfl,gb,A1,c1,A2,c2,A3,c3,rfl,hgb,hw,hc,hf⟩:=hcut
 have HC:=hid hc
 have hgb2:w.heap.size+1 < gb:=by simp at hgb;omega
 have KW:=zKW H P0 Q0 F0 hf hw hgb2
 clear hf hw hc hgb hn1 hn2 hn3 hn4 hn5 hn6
 have hz1:¬w.heap.size=w.heap.size+1:=by omega
 have hz2:¬g=w.heap.size+1:=by omega
 have hz3:¬gb=w.heap.size+1:=by omega
 have hz4:¬w.heap.size+1=gb:=by omega
 have hz5:¬w.heap.size+1=g:=by omega
 have hz6:¬b=w.heap.size+1:=by omega
 have hz7:¬w.heap.size+1=b:=by omega
 have ix0n:0 < l.length:=by omega
 have KD:=hid KW.out.drew
 have p0:=(KD.out.bl _ (.head _)).cell 0
 obtain⟨d0,d1,d2⟩:=KD.out.d.three
 have d3:=KD.out.f.cell (HAT.out 0 (by omega)) (by simp)
 rw[Nat.add_zero] at d3
 go_upto_region 10 with fail
 go_region_held3 (fun wx=>wx.cell? ⟨w.heap.size,0,none⟩=some (.pointer (some ⟨g,0,none⟩))∧wx.cell? ⟨g,0,none⟩=some (.slice SA s.length sc)∧wx.cell? ⟨g,1,none⟩=some (.int .i64 now)∧wx.cell? ⟨g,2,none⟩=some (.slice (some ⟨b,off,none⟩) l.length lc)∧wx.cell? ⟨b,off,none⟩=some (.string (wd l 0))) (go_keep) ((first|(go_at_call 74;refine(SK.out _ _ KD.out.d.e.v).mono ?_;rintro e7 w7 ⟨AK,nk,rfl,hk7,f7⟩;have K7:=hid (KD.out.go f7);have OK7:=hid (z0t hk7);clear hk7 f7 p0 d0 d1 d2 d3;have p0:=(K7.out.bl _ (.head _)).cell 0;obtain⟨d0,d1,d2⟩:=K7.out.d.three;have d3:=K7.out.f.cell (HAT.out 0 (by omega)) (by simp);rw[Nat.add_zero] at d3)|(go_at_call 179;refine(DL.out _ _ OK7.out).mono ?_;rintro e8 w8 ⟨u8,rfl,hu8,f8⟩;have K8:=hid (K7.out.go f8);have HU8:=hid (hu8.base (show w.heap.size+1+1≤_ from(by have:=(K7.out.bl _ (.tail _ (.head _))).lt;exact this)));obtain⟨S,sc9,rfl⟩:=hu8.form;clear hu8 f8 p0 d0 d1 d2 d3;have p0:=(K8.out.bl _ (.head _)).cell 0;obtain⟨d0,d1,d2⟩:=K8.out.d.three;have d3:=K8.out.f.cell (HAT.out 0 (by omega)) (by simp);rw[Nat.add_zero] at d3;obtain⟨y0,y1,y2,y3⟩:=four (K8.out.bl _ (.tail _ (.head _)));obtain⟨z0,z1,z2,z3⟩:=z0w (K8.out.bl _ (.tail _ (.head _))))))
 go_wp2
 refine bodyPost_ret (v:=.agg #[.int .i64 q9.kind,.string q9.text,.int .i64 q9.n,.slice S q9.list.length sc9]) (by simp[results,Tryz.results129,go_sem,y0,y1,y2,y3]) rfl ?_
 exact ChD.fin4o (Nat.le_succ _) HU8.out K8.out.f.up (K8.out.bl _ (.tail _ (.head _))) hbz (fun _=>⟨_,K8.out.d⟩)
theorem ziv(g B0:Nat)(sv:Value)(now:Int)(lv:Value)(l:List ByteArray)(s:List Ent)(c0:ByteArray)(w:World)(ok:z1m s)(hn:1≤l.length)(h12:l.length≤11)(hz:∀t∈l,t.size≤60)(hk:z1a s now (wd l 0)=false)(h:Dr g B0 sv now lv l s w) :
  Calls prog 129 #[.pointer (some ⟨g,0,none⟩),.string ⟨#[112,101,114,115,105,115,116]⟩] w (ChD g B0 B0 sv now lv l (doC .persist s now (c0 :: l)) w):=by
 have LT:=z2u ok now (wd l 0)
 have EP:doC .persist s now (c0 :: l)=(s,z0h 0):=by
  show(if (z00 s now (wd l 0)).item.kind=0∨(z00 s now (wd l 0)).til=0 then (s,z0h 0) else _)=_
  rw[hk] at LT
  rw[if_pos (.inl (by simpa using LT.symm))]
 rw[EP]
 exact z91 _ 0 g B0 sv now lv l s w ok (by omega) h (.inr (.inr (.inl ⟨rfl,rfl,hk⟩)))
theorem ziq(g B0:Nat)(sv:Value)(now:Int)(lv:Value)(l:List ByteArray)(s:List Ent)(c0:ByteArray)(w:World)(ok:z1m s)(hn:1≤l.length)(h12:l.length≤11)(hz:∀t∈l,t.size≤60)(hk:(z1a s now (wd l 0)=true∧(z00 s now (wd l 0)).til=0))(h:Dr g B0 sv now lv l s w) :
  Calls prog 129 #[.pointer (some ⟨g,0,none⟩),.string ⟨#[112,101,114,115,105,115,116]⟩] w (ChD g B0 B0 sv now lv l (doC .persist s now (c0 :: l)) w):=by
 have LT:=z2u ok now (wd l 0)
 have EP:doC .persist s now (c0 :: l)=(s,z0h 0):=by
  show(if (z00 s now (wd l 0)).item.kind=0∨(z00 s now (wd l 0)).til=0 then (s,z0h 0) else _)=_
  rw[if_pos (.inr hk.2)]
 rw[EP]
 exact z91 _ 0 g B0 sv now lv l s w ok (by omega) h (.inr (.inr (.inr (.inl ⟨rfl,rfl,hk⟩))))
theorem zjc(g B0:Nat)(sv:Value)(now:Int)(lv:Value)(l:List ByteArray)(s:List Ent)(c0:ByteArray)(w:World)(ok:z1m s)(hn:1≤l.length)(h12:l.length≤11)(hz:∀t∈l,t.size≤60)(hk:(z1a s now (wd l 0)=true∧(z00 s now (wd l 0)).til≠0))(h:Dr g B0 sv now lv l s w) :
  Calls prog 129 #[.pointer (some ⟨g,0,none⟩),.string ⟨#[112,101,114,115,105,115,116]⟩] w (ChD g B0 B0 sv now lv l (doC .persist s now (c0 :: l)) w):=by
 have hr:=ok.rise
 have hs16:=ok.le
 have DI:=zDI hr hs16 h
 have LS:=hid (z0a (z07 ok) now (wd l 0)).item
 have hzw:∀i,(wd l i).size≤60:=z0s hz
 have LT:=z2u ok now (wd l 0)
 have KY:(z00 s now (wd l 0)).key=wd l 0:=by
  rcases z5h ok now (wd l 0) with⟨_,h2⟩|⟨_,_,_,h4⟩
  ·rw[hk.1] at h2;cases h2
  ·exact h4
 have EP:doC .persist s now (c0 :: l)=(if z1e s now (z00 s now (wd l 0)).key (z00 s now (wd l 0)).item 0=0 then z5l s now (z00 s now (wd l 0)).key (z00 s now (wd l 0)).item 0 else s,orR (z0h 1) (z1e s now (z00 s now (wd l 0)).key (z00 s now (wd l 0)).item 0) false):=by
  show(if (z00 s now (wd l 0)).item.kind=0∨(z00 s now (wd l 0)).til=0 then (s,z0h 0) else fin s now (wd l 0) (z00 s now (wd l 0)).item 0 true false 0 (z0h 1))=_
  rw[hk.1] at LT
  rw[if_neg (fun h=>h.elim (by simpa using LT.symm) hk.2)]
  rw[KY]
  unfold fin orR
  rw[if_pos rfl,if_pos rfl]
  split
  ·rfl
  ·rw[if_neg (fun h=>by cases h.2)]
 have PT:=hid (fun W yv (hd:Dr g B0 sv now lv l s W) (hy:z0l W B0 yv (z00 s now (wd l 0)).item)=>z9o g B0 sv now lv l s (z00 s now (wd l 0)).key (z00 s now (wd l 0)).item yv 0 W hr (by omega) LS.out hd hy)
 obtain⟨pp,hpp⟩:∃pp,pp=(if z1e s now (z00 s now (wd l 0)).key (z00 s now (wd l 0)).item 0=0 then z5l s now (z00 s now (wd l 0)).key (z00 s now (wd l 0)).item 0 else s,orR (z0h 1) (z1e s now (z00 s now (wd l 0)).key (z00 s now (wd l 0)).item 0) false):=⟨_,rfl⟩
 rw[EP,←hpp]
 have HPP:=hid hpp
 clear EP LT KY hpp
 have LK:=hid (fun W (hW:Fr [] w W)=>z1g s sv now (wd l 0) W B0 hr (by omega) (h.e.fr hW))
 have H:=hid h
 have hlt:=h.lt
 have hbz:=h.bz
 obtain⟨SA,sc,rfl⟩:=h.sform
 obtain⟨LA,lc,rfl⟩:=h.lform
 obtain⟨b,off,rfl,hb,hc,hm,hat⟩:=h.word (by omega)
 have HAT:=hid hat
 have DG:=hid (fun W (hW:Fr [] w W)=>(h.go hW).three)
 unfold maxLen at hm
 clear h hr hat hzw ok
 generalize z5l s now (z00 s now (wd l 0)).key (z00 s now (wd l 0)).item 0=s2 at *
 generalize z1e s now (z00 s now (wd l 0)).key (z00 s now (wd l 0)).item 0=pc at *
 generalize z00 s now (wd l 0)=y at *
 generalize z1a s now (wd l 0)=bb at *
 have ix0:(0:Int) < (l.length:Int):=by omega
 have HB:=hid hk.1
 have q3:(y.til==0)=false:=by simpa using hk.2
 clear hk
 clear DI
 have F0:=zF2 w g
 have P0:=zP0 w g
 have Q0:=zQ0 w g
 have F1:=hid (F0.out.alloc (.cells #[.string ⟨#[]⟩,.int .i64 0,.string ⟨#[]⟩,.slice none 0 0,.slice none 0 0,.slice none 0 0,.int .i64 0] 45))
 have V1:=zV1 w g
 have hn1:¬g=w.heap.size+1+1:=by omega
 have hn2:¬w.heap.size+1+1=g:=by omega
 have hn3:¬b=w.heap.size+1+1:=by omega
 have hn4:¬w.heap.size+1+1=b:=by omega
 have hn5:¬w.heap.size=w.heap.size+1+1:=by omega
 have hn6:¬w.heap.size+1+1=w.heap.size:=by omega
 have ix0n:0 < l.length:=by omega
 have p0:=P0.out.cell 0
 have p1:=(P0.out.alloc (.cells #[.string ⟨#[]⟩,.int .i64 0,.string ⟨#[]⟩,.slice none 0 0,.slice none 0 0,.slice none 0 0,.int .i64 0] 45)).cell 0
 obtain⟨d0,d1,d2⟩:=DG.out _ F0.out
 obtain⟨d3,d4,d5⟩:=DG.out _ F1.out
 have d6:=F0.out.cell (HAT.out 0 (by omega)) (by simp)
 have d7:=F1.out.cell (HAT.out 0 (by omega)) (by simp)
 rw[Nat.add_zero] at d6 d7
 go_enter Tryz.func129,Tryz.ntmps129
 go_upto_region 1 with fail
 go_cut [5,6] (fun pb po wx=>po=.bool bb∧z87 B0 y ((w.alloc (.cells #[.pointer (some ⟨g,0,none⟩)] 115)).alloc (.cells #[.int .i64 0,.string ⟨#[]⟩,.int .i64 0,.slice none 0 0] 27)) pb wx)
 case first=>
  go_region_held3 (fun wx=>wx.cell? ⟨w.heap.size,0,none⟩=some (.pointer (some ⟨g,0,none⟩))∧wx.cell? ⟨g,0,none⟩=some (.slice SA s.length sc)∧wx.cell? ⟨g,1,none⟩=some (.int .i64 now)∧wx.cell? ⟨g,2,none⟩=some (.slice (some ⟨b,off,none⟩) l.length lc)∧wx.cell? ⟨b,off,none⟩=some (.string (wd l 0))) (go_keep) ((go_at_call 105;first|(refine(LK.out _ F0.out.drew).mono ?_;rintro e1 w1 ⟨A1,c1,A2,c2,A3,c3,rfl,hc,f1⟩;have F2:=hid (z01 f1);have F3:=hid (F0.out.trans F2.out);have HC:=hid hc;obtain⟨z0,z1,z2⟩:=DG.out _ F3.out;have z3:=F3.out.cell (HAT.out 0 (by omega)) (by simp);rw[Nat.add_zero] at z3;have z4:=(P0.out.fr F2.out (by simp)).cell 0;clear f1 hc)|(refine(LK.out _ F1.out.drew).mono ?_;rintro e1 w1 ⟨A1,c1,A2,c2,A3,c3,rfl,hc,f1⟩;have F2:=hid (z2g (z01 f1));have F3:=hid (F1.out.trans (z01 f1));have HC:=hid hc;have V2:=hid (V1.out.fr (z01 f1) (by simp));obtain⟨z0,z1,z2⟩:=DG.out _ F3.out;have z3:=F3.out.cell (HAT.out 0 (by omega)) (by simp);rw[Nat.add_zero] at z3;have z4:=((P0.out.alloc (.cells #[.string ⟨#[]⟩,.int .i64 0,.string ⟨#[]⟩,.slice none 0 0,.slice none 0 0,.slice none 0 0,.int .i64 0] 45)).fr (z01 f1) (by simp)).cell 0;have y7:=seven V2.out;have z7:=z3p V2.out;clear f1 hc)))
  all_goals
   go_wp2
   go_meet
   case rel=>first|with_reducible exact⟨rfl,z87.new HC.out F2.out⟩|exact⟨rfl,z87.put HC.out F2.out (by simp) V2.out⟩
 clear d0 d1 d2 d3 d4 d5 d6 d7 p0 p1
 obtain⟨rfl,gb,A1,c1,A2,c2,A3,c3,rfl,hgb,hw,hc,hf⟩:=hcut
 have HC:=hid hc
 have hgb2:w.heap.size+1 < gb:=by simp at hgb;omega
 have KW:=zKW H P0 Q0 F0 hf hw hgb2
 clear hf hw hc hgb hn1 hn2 hn3 hn4 hn5 hn6
 have hb9:=HB.out
 clear HB
 subst hb9
 have hz1:¬w.heap.size=w.heap.size+1:=by omega
 have hz2:¬g=w.heap.size+1:=by omega
 have hz3:¬gb=w.heap.size+1:=by omega
 have hz4:¬w.heap.size+1=gb:=by omega
 have hz5:¬w.heap.size+1=g:=by omega
 have hz6:¬b=w.heap.size+1:=by omega
 have hz7:¬w.heap.size+1=b:=by omega
 have p0:=(KW.out.bl _ (.head _)).cell 0
 obtain⟨e0,e1,e2,e3,e4,e5,e6⟩:=seven (KW.out.bl _ (.tail _ (.tail _ (.head _))))
 go_upto_region 20 with fail
 have KD:=hid KW.out.drew
 have HD:=hid (HC.out.fr (Fr.refl [] _).drew)
 clear KW HC
 have KW:=KD
 have HC:=HD
 clear KD HD
 go_region_held3 (fun wx=>wx.cell? ⟨w.heap.size,0,none⟩=some (.pointer (some ⟨g,0,none⟩))∧wx.cell? ⟨gb,0,none⟩=some (.string y.key)∧wx.cell? ⟨gb,1,none⟩=some (.int .i64 y.item.kind)∧wx.cell? ⟨gb,2,none⟩=some (.string y.item.text)∧wx.cell? ⟨gb,3,none⟩=some (.slice A1 y.item.list.length c1)∧wx.cell? ⟨gb,4,none⟩=some (.slice A2 y.item.pairs.length c2)∧wx.cell? ⟨gb,5,none⟩=some (.slice A3 y.item.scores.length c3)) (go_keep) ((first|(go_at_call 171;refine(z0j _ _).mono ?_;rintro e5 w5 ⟨rfl,f5⟩;have KN:=hid (KW.out.go f5);have HCN:=hid (HC.out.fr f5);clear KW HC p0 e0 e1 e2 e3 e4 e5 e6;have KW:=KN;have HC:=HCN;clear KN HCN f5;have p0:=(KW.out.bl _ (.head _)).cell 0;obtain⟨e0,e1,e2,e3,e4,e5,e6⟩:=seven (KW.out.bl _ (.tail _ (.tail _ (.head _)))))|(go_at_call 167;refine(PT.out _ _ KW.out.d HC.out.item).mono ?_;rintro e6 w6 ⟨rfl,f6,sv6,hg6,hd6⟩;have WB:=hid (KW.out.keep H.out f6);have F6:=hid (KW.out.f.up.trans f6);have D6:=hid hd6;have G6:=hid hg6;clear f6 hg6 hd6 p0 e0 e1 e2 e3 e4 e5 e6;have p0:=(WB.out _ (.head _)).cell 0;obtain⟨e0,e1,e2,e3,e4,e5,e6⟩:=seven (WB.out _ (.tail _ (.tail _ (.head _)))))|(go_at_call 165;refine(z4r (z0h 1) _ pc false (w.heap.size+1+1) _ (z1f.bare _ _ _ _ _)).mono ?_;rintro e8 w8 ⟨rfl,f8⟩;have F8:=hid (F6.out.trans f8.up);have f8':=hid f8;have WB8:=hid (fun p hp=>(WB.out p hp).fr f8 (by simp));clear f8 p0 e0 e1 e2 e3 e4 e5 e6;have p0:=(WB8.out _ (.head _)).cell 0;obtain⟨e0,e1,e2,e3,e4,e5,e6⟩:=seven (WB8.out _ (.tail _ (.tail _ (.head _))));obtain⟨y0,y1,y2,y3⟩:=four (WB8.out _ (.tail _ (.head _)));obtain⟨z0,z1,z2,z3⟩:=z0w (WB8.out _ (.tail _ (.head _)));have HV:=hid (show z1f w8 (w.heap.size+1+1) (orV (.agg #[.int .i64 3,.string ⟨#[]⟩,.int .i64 1,.slice none 0 0]) pc false) (orR (z0h 1) pc false) from z8n (z1f.bare _ _ _ _ _) pc false);obtain⟨S,sc9,hS⟩:=HV.out.form;have HS9:=hid hS;clear hS;rw[HS9.out])))
 have HV9:=hid (show z1f w8 (w.heap.size+1+1) (.agg #[.int .i64 (orR (z0h 1) pc false).kind,.string (orR (z0h 1) pc false).text,.int .i64 (orR (z0h 1) pc false).n,.slice S (orR (z0h 1) pc false).list.length sc9]) (orR (z0h 1) pc false) from by have:=HV.out;rw[HS9.out] at this;exact this)
 have HD9:=hid (show(orR (z0h 1) pc false).kind≠2→∃sv',Dr g B0 sv' now (.slice (some ⟨b,off,none⟩) l.length lc) l (if pc=0 then s2 else s) w8 from fun hk=>by
  by_cases hp:pc=0
  ·rw[if_pos hp];exact⟨_,(D6.out hp).go f8'.out⟩
  ·exact absurd (show(orR (z0h 1) pc false).kind=2 from by unfold orR;rw[if_neg hp,if_neg (fun h=>by cases h.2)];rfl) hk)
 generalize (if pc=0 then s2 else s)=sf at *
 generalize orR (z0h 1) pc false=q9 at *
 go_wp2
 refine bodyPost_ret (v:=.agg #[.int .i64 q9.kind,.string q9.text,.int .i64 q9.n,.slice S q9.list.length sc9]) (by simp[results,Tryz.results129,go_sem,y0,y1,y2,y3]) rfl ?_
 rw[HPP.out]
 exact ChD.fin4o (Nat.le_succ _) HV9.out F8.out (WB8.out _ (.tail _ (.head _))) hbz HD9.out
theorem zmo(g B0:Nat)(sv:Value)(now:Int)(lv:Value)(l:List ByteArray)(s:List Ent)(c0:ByteArray)(w:World)(ok:z1m s)(hn:1≤l.length)(h12:l.length≤11)(hz:∀t∈l,t.size≤60)(h:Dr g B0 sv now lv l s w) :
  Calls prog 129 #[.pointer (some ⟨g,0,none⟩),.string ⟨#[112,101,114,115,105,115,116]⟩] w (ChD g B0 B0 sv now lv l (doC .persist s now (c0 :: l)) w):=by
 rcases hb:z1a s now (wd l 0) with _|_
 ·exact ziv g B0 sv now lv l s c0 w ok hn h12 hz hb h
 ·by_cases ht:(z00 s now (wd l 0)).til=0
  ·exact ziq g B0 sv now lv l s c0 w ok hn h12 hz ⟨hb,ht⟩ h
  ·exact zjc g B0 sv now lv l s c0 w ok hn h12 hz ⟨hb,ht⟩ h
theorem zlb(g B0:Nat)(sv:Value)(now:Int)(lv:Value)(l:List ByteArray)(s:List Ent)(c0:ByteArray)(w:World)(ok:z1m s)(hn:2≤l.length)(h12:l.length≤11)(hz:∀t∈l,t.size≤60)(hk:z1a s now (wd l 0)=false)(h:Dr g B0 sv now lv l s w) :
  Calls prog 129 #[.pointer (some ⟨g,0,none⟩),.string ⟨#[101,120,112,105,114,101]⟩] w (ChD g B0 B0 sv now lv l (doC .expire s now (c0 :: l)) w):=by
 have LT:=z2u ok now (wd l 0)
 have EP:doC .expire s now (c0 :: l)=(s,z0h 0):=by
  show(if (z00 s now (wd l 0)).item.kind=0 then (s,z0h 0) else _)=_
  rw[hk] at LT
  rw[if_pos (by simpa using LT.symm)]
 rw[EP]
 exact z91 _ 0 g B0 sv now lv l s w ok (by omega) h (.inr (.inr (.inr (.inr ⟨rfl,rfl,hk⟩))))
theorem zlm(g B0:Nat)(sv:Value)(now:Int)(lv:Value)(l:List ByteArray)(s:List Ent)(c0:ByteArray)(w:World)(ok:z1m s)(hn:2≤l.length)(h12:l.length≤11)(hz:∀t∈l,t.size≤60)(n1:Int)(h1:z3v (wd l 1).data.toList=some n1)(hv:Vars w)(h0:0≤now∧now≤1000000)(hk:z1a s now (wd l 0)=true)(h:Dr g B0 sv now lv l s w) :
  Calls prog 129 #[.pointer (some ⟨g,0,none⟩),.string ⟨#[101,120,112,105,114,101]⟩] w (ChD g B0 B0 sv now lv l (doC .expire s now (c0 :: l)) w):=by
 have hr:=ok.rise
 have hs16:=ok.le
 have DI:=zDI hr hs16 h
 have LS:=hid (z0a (z07 ok) now (wd l 0)).item
 have hzw:∀i,(wd l i).size≤60:=z0s hz
 have LT:=z2u ok now (wd l 0)
 have bn9:=zw9 h1
 have en1:wn (c0 :: l) 2=n1:=by show(z3v (wd l 1).data.toList).getD 0=n1;rw[h1];rfl
 have bn1:=z74 h1
 have I1:=hid (fun W (hW:Fr [] w W)=>(show Calls prog 174 #[.pointer (some ⟨g,0,none⟩),.int .i64 1] W (fun e w'=>e=.returned (.int .i64 n1)∧Fr [] W w') from z38 g B0 sv now lv l s 1 n1 W (by omega) (fun t ht=>by have:=hz t ht;omega) h1 (hv.fr hW) (h.go hW)))
 clear h1 hv
 have KY:(z00 s now (wd l 0)).key=wd l 0:=by
  rcases z5h ok now (wd l 0) with⟨_,h2⟩|⟨_,_,_,h4⟩
  ·rw[hk] at h2;cases h2
  ·exact h4
 have EP:doC .expire s now (c0 :: l)=zwg s now (z00 s now (wd l 0)) n1:=by
  show(if (z00 s now (wd l 0)).item.kind=0 then (s,z0h 0) else if wn (c0 :: l) 2 < 1 then fin s now (wd l 0) (z2r 0) (now+wn (c0 :: l) 2) true false 0 (z0h 1) else fin s now (wd l 0) (z00 s now (wd l 0)).item (now+wn (c0 :: l) 2) true false (if 1000000 < now+wn (c0 :: l) 2 then 3 else 0) (z0h 1))=_
  rw[hk] at LT
  rw[if_neg (by simpa using LT.symm),en1]
  unfold zwg
  rw[KY]
  by_cases a1:n1 < 1
  ·rw[if_pos a1,if_pos a1]
   unfold fin
   rw[if_pos rfl,if_pos rfl,if_pos (z9l _ _ _ _).2,(z9l _ _ _ _).1]
  ·rw[if_neg a1,if_neg a1]
   by_cases a2:1000000 < now+n1
   ·rw[if_pos a2,if_pos a2]
    rfl
   ·rw[if_neg a2,if_neg a2]
    unfold fin orR
    rw[if_pos rfl,if_pos rfl]
    split
    ·rfl
    ·rw[if_neg (fun h=>by cases h.2)]
 have XP:=hid (fun W A1 c1 A2 c2 A3 c3 (hd:Dr g B0 sv now lv l s W) (hc:z2v W B0 (z7d (z00 s now (wd l 0)) A1 c1 A2 c2 A3 c3) (z00 s now (wd l 0)))=>zjb g B0 sv now lv l s (z00 s now (wd l 0)) A1 c1 A2 c2 A3 c3 n1 W hr (by omega) LS.out h0 bn9 hd hc)
 rw[EP]
 clear EP LT KY bn9 en1
 have LK:=hid (fun W (hW:Fr [] w W)=>z1g s sv now (wd l 0) W B0 hr (by omega) (h.e.fr hW))
 have H:=hid h
 have hlt:=h.lt
 have hbz:=h.bz
 obtain⟨SA,sc,rfl⟩:=h.sform
 obtain⟨LA,lc,rfl⟩:=h.lform
 obtain⟨b,off,rfl,hb,hc,hm,hat⟩:=h.word (by omega)
 have HAT:=hid hat
 have DG:=hid (fun W (hW:Fr [] w W)=>(h.go hW).three)
 unfold maxLen at hm
 clear h hr hat hzw ok
 generalize zwg s now (z00 s now (wd l 0)) n1=pp at *
 generalize z00 s now (wd l 0)=y at *
 generalize z1a s now (wd l 0)=bb at *
 have ix0:(0:Int) < (l.length:Int):=by omega
 have HB:=hid hk
 clear hk
 clear DI
 have F0:=zF2 w g
 have P0:=zP0 w g
 have Q0:=zQ0 w g
 have F1:=hid (F0.out.alloc (.cells #[.string ⟨#[]⟩,.int .i64 0,.string ⟨#[]⟩,.slice none 0 0,.slice none 0 0,.slice none 0 0,.int .i64 0] 45))
 have V1:=zV1 w g
 have hn1:¬g=w.heap.size+1+1:=by omega
 have hn2:¬w.heap.size+1+1=g:=by omega
 have hn3:¬b=w.heap.size+1+1:=by omega
 have hn4:¬w.heap.size+1+1=b:=by omega
 have hn5:¬w.heap.size=w.heap.size+1+1:=by omega
 have hn6:¬w.heap.size+1+1=w.heap.size:=by omega
 have ix0n:0 < l.length:=by omega
 have p0:=P0.out.cell 0
 have p1:=(P0.out.alloc (.cells #[.string ⟨#[]⟩,.int .i64 0,.string ⟨#[]⟩,.slice none 0 0,.slice none 0 0,.slice none 0 0,.int .i64 0] 45)).cell 0
 obtain⟨d0,d1,d2⟩:=DG.out _ F0.out
 obtain⟨d3,d4,d5⟩:=DG.out _ F1.out
 have d6:=F0.out.cell (HAT.out 0 (by omega)) (by simp)
 have d7:=F1.out.cell (HAT.out 0 (by omega)) (by simp)
 rw[Nat.add_zero] at d6 d7
 go_enter Tryz.func129,Tryz.ntmps129
 go_upto_region 1 with fail
 go_cut [5,6] (fun pb po wx=>po=.bool bb∧z87 B0 y ((w.alloc (.cells #[.pointer (some ⟨g,0,none⟩)] 115)).alloc (.cells #[.int .i64 0,.string ⟨#[]⟩,.int .i64 0,.slice none 0 0] 27)) pb wx)
 case first=>
  go_region_held3 (fun wx=>wx.cell? ⟨w.heap.size,0,none⟩=some (.pointer (some ⟨g,0,none⟩))∧wx.cell? ⟨g,0,none⟩=some (.slice SA s.length sc)∧wx.cell? ⟨g,1,none⟩=some (.int .i64 now)∧wx.cell? ⟨g,2,none⟩=some (.slice (some ⟨b,off,none⟩) l.length lc)∧wx.cell? ⟨b,off,none⟩=some (.string (wd l 0))) (go_keep) ((go_at_call 105;first|(refine(LK.out _ F0.out.drew).mono ?_;rintro e1 w1 ⟨A1,c1,A2,c2,A3,c3,rfl,hc,f1⟩;have F2:=hid (z01 f1);have F3:=hid (F0.out.trans F2.out);have HC:=hid hc;obtain⟨z0,z1,z2⟩:=DG.out _ F3.out;have z3:=F3.out.cell (HAT.out 0 (by omega)) (by simp);rw[Nat.add_zero] at z3;have z4:=(P0.out.fr F2.out (by simp)).cell 0;clear f1 hc)|(refine(LK.out _ F1.out.drew).mono ?_;rintro e1 w1 ⟨A1,c1,A2,c2,A3,c3,rfl,hc,f1⟩;have F2:=hid (z2g (z01 f1));have F3:=hid (F1.out.trans (z01 f1));have HC:=hid hc;have V2:=hid (V1.out.fr (z01 f1) (by simp));obtain⟨z0,z1,z2⟩:=DG.out _ F3.out;have z3:=F3.out.cell (HAT.out 0 (by omega)) (by simp);rw[Nat.add_zero] at z3;have z4:=((P0.out.alloc (.cells #[.string ⟨#[]⟩,.int .i64 0,.string ⟨#[]⟩,.slice none 0 0,.slice none 0 0,.slice none 0 0,.int .i64 0] 45)).fr (z01 f1) (by simp)).cell 0;have y7:=seven V2.out;have z7:=z3p V2.out;clear f1 hc)))
  all_goals
   go_wp2
   go_meet
   case rel=>first|with_reducible exact⟨rfl,z87.new HC.out F2.out⟩|exact⟨rfl,z87.put HC.out F2.out (by simp) V2.out⟩
 clear d0 d1 d2 d3 d4 d5 d6 d7 p0 p1
 obtain⟨rfl,gb,A1,c1,A2,c2,A3,c3,rfl,hgb,hw,hc,hf⟩:=hcut
 have HC:=hid hc
 have hgb2:w.heap.size+1 < gb:=by simp at hgb;omega
 have KW:=zKW H P0 Q0 F0 hf hw hgb2
 clear hf hw hc hgb hn1 hn2 hn3 hn4 hn5 hn6
 have hb9:=HB.out
 clear HB
 subst hb9
 have hz1:¬w.heap.size=w.heap.size+1:=by omega
 have hz2:¬g=w.heap.size+1:=by omega
 have hz3:¬gb=w.heap.size+1:=by omega
 have hz4:¬w.heap.size+1=gb:=by omega
 have hz5:¬w.heap.size+1=g:=by omega
 have hz6:¬b=w.heap.size+1:=by omega
 have hz7:¬w.heap.size+1=b:=by omega
 have p0:=(KW.out.bl _ (.head _)).cell 0
 obtain⟨e0,e1,e2,e3,e4,e5,e6⟩:=seven (KW.out.bl _ (.tail _ (.tail _ (.head _))))
 go_upto_region 23 with fail
 have KD:=hid KW.out.drew
 have HD:=hid (HC.out.fr (Fr.refl [] _).drew)
 go_region_held3 (fun wx=>wx.cell? ⟨w.heap.size,0,none⟩=some (.pointer (some ⟨g,0,none⟩))∧wx.cell? ⟨gb,0,none⟩=some (.string y.key)∧wx.cell? ⟨gb,1,none⟩=some (.int .i64 y.item.kind)∧wx.cell? ⟨gb,2,none⟩=some (.string y.item.text)∧wx.cell? ⟨gb,3,none⟩=some (.slice A1 y.item.list.length c1)∧wx.cell? ⟨gb,4,none⟩=some (.slice A2 y.item.pairs.length c2)∧wx.cell? ⟨gb,5,none⟩=some (.slice A3 y.item.scores.length c3)∧wx.cell? ⟨gb,6,none⟩=some (.int .i64 y.til)) (go_keep) ((first|(go_at_call 174;refine(I1.out _ KD.out.f).mono ?_;rintro e5 w5 ⟨rfl,f5⟩;have K5:=hid (KD.out.go f5);have HC5:=hid (HD.out.fr f5);clear f5 p0 e0 e1 e2 e3 e4 e5 e6;have p0:=(K5.out.bl _ (.head _)).cell 0;obtain⟨e0,e1,e2,e3,e4,e5,e6⟩:=seven (K5.out.bl _ (.tail _ (.tail _ (.head _)))))|(go_at_call 180;refine(XP.out _ _ _ _ _ _ _ K5.out.d HC5.out).mono ?_;rintro e8 w8 ⟨u,rfl,hu,f8,hd⟩;obtain⟨R,rc,rfl⟩:=hu.form;have WB8:=hid (K5.out.keep H.out f8);have HU:=hid (hu.base (show w.heap.size+1+1≤_ from(by have:=(K5.out.bl _ (.tail _ (.head _))).lt;exact this)));have HDD:=hid hd;have F8:=hid (K5.out.f.up.trans f8);clear f8 hu hd p0 e0 e1 e2 e3 e4 e5 e6;have p0:=(WB8.out _ (.head _)).cell 0;obtain⟨e0,e1,e2,e3,e4,e5,e6⟩:=seven (WB8.out _ (.tail _ (.tail _ (.head _))));obtain⟨y0,y1,y2,y3⟩:=four (WB8.out _ (.tail _ (.head _)));obtain⟨z0,z1,z2,z3⟩:=z0w (WB8.out _ (.tail _ (.head _))))))
 obtain⟨sp,pr⟩:=pp
 go_wp2
 refine bodyPost_ret (v:=.agg #[.int .i64 pr.kind,.string pr.text,.int .i64 pr.n,.slice R pr.list.length rc]) (by simp[results,Tryz.results129,go_sem,y0,y1,y2,y3]) rfl ?_
 exact ChD.fin4o (Nat.le_succ _) HU.out F8.out (WB8.out _ (.tail _ (.head _))) hbz HDD.out
theorem zn3(g B0:Nat)(sv:Value)(now:Int)(lv:Value)(l:List ByteArray)(s:List Ent)(c0:ByteArray)(w:World)(ok:z1m s)(hn:2≤l.length)(h12:l.length≤11)(hz:∀t∈l,t.size≤60)(n1:Int)(h1:z3v (wd l 1).data.toList=some n1)(hv:Vars w)(h0:0≤now∧now≤1000000)(h:Dr g B0 sv now lv l s w) :
  Calls prog 129 #[.pointer (some ⟨g,0,none⟩),.string ⟨#[101,120,112,105,114,101]⟩] w (ChD g B0 B0 sv now lv l (doC .expire s now (c0 :: l)) w):=by
 rcases hb:z1a s now (wd l 0) with _|_
 ·exact zlb g B0 sv now lv l s c0 w ok hn h12 hz hb h
 ·exact zlm g B0 sv now lv l s c0 w ok hn h12 hz n1 h1 hv h0 hb h
end Go.Proofs.YtamgdmiopinidaaGreatDoor
