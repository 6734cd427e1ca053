/- Contracts; no condition but each theorem's own. -/
import Derived.Test.YtmalkppcahogjaaGreatDoorSlR16
set_option linter.unusedVariables false
set_option linter.unusedSimpArgs false
set_option maxHeartbeats 8000000
set_option maxRecDepth 100000
namespace Go.Proofs.YtmalkppcahogjaaGreatDoor
open Lib (hid)
open Go.Proofs.Tryz (prog)
open Go.RowKit
theorem zxq{l:List UInt8}{v:Int}(h:z2z l=some v):-999999999≤v∧v≤999999999:=by
 have:=(z4u.1 h).1;simp only[z0i,Bool.and_eq_true,decide_eq_true_eq] at this;omega
section
variable (g B0:Nat) (sv:Value) (now:Int) (lv:Value) (l:List ByteArray) (s:List Ent) (c0:ByteArray) (w:World)
theorem zuf(ok:z1y s)(hn:1≤l.length)(h12:l.length≤11)(hz:∀t∈l,t.size≤60)(h0:0≤now∧now≤1000000)(h:Dr g B0 sv now lv l s w):
  Calls prog 183 #[.pointer (some ⟨g,0,none⟩),.string ⟨#[107,101,121,115]⟩] w (ChD g B0 B0 sv now lv l (doC .keys_ s now (c0 :: l)) w):=by
 have hr:=ok.rise;have hs16:=ok.le;have hzw:∀i,(wd l i).size≤60:=zck hz
 have hat0:z0u s now ⟨#[]⟩=0:=by
  unfold z0u;have ht:z3e now=true:=by unfold z3e;rw[decide_eq_true h0.1,decide_eq_true h0.2];rfl
  rw[if_neg (by simpa using zjh ok),if_neg (by rw[ht];decide),if_neg (by decide)]
 have EP:doC .keys_ s now (c0 :: l)=(s,orR (z1z (zby s now (wd l 0))) (zfd s now (wd l 0)) false):=by
  show fin s now (wd l 0) (z00 s now (wd l 0)).item (z00 s now (wd l 0)).til false false (z0y (wd l 0)) (z1z (zd7 s now (wd l 0)))=_;have hcc:zfd s now (wd l 0)=z0y (wd l 0):=if_pos hat0;rw[z26,hcc];refine congrArg (Prod.mk s) (z7o fun h=>?_);unfold zby;rw[if_pos (hcc.trans h)]
 have LEN:(zby s now (wd l 0)).length≤1000:=by have:=zsr s now (wd l 0);omega
 have DL:=hid (fun(W:World) u (q:Sl W W.heap.size 1 u (zby s now (wd l 0)).length (z04 (zby s now (wd l 0))))=>z2h (zby s now (wd l 0)) u (zfd s now (wd l 0)) W LEN q);have SK:=hid (fun W v (q:z1l W W.heap.size v s)=>za2 s v now (wd l 0) W W.heap.size (z09 ok) (by omega) (by have:=hzw 0;omega) (Nat.le_refl _) q);rw[EP];clear EP LEN hat0;have LK:=hid (fun W (hW:Fr [] w W)=>z1g s sv now (wd l 0) W B0 hr (by omega) (h.e.fr hW));have H:=hid h;have hlt:=h.lt;have hbz:=h.bz;obtain⟨SA,sc,rfl⟩:=h.sform;obtain⟨LA,lc,rfl⟩:=h.lform;obtain⟨b,off,rfl,hb,hc,hm,hat⟩:=h.word (by omega);have HAT:=hid hat;have DG:=hid (fun W (hW:Fr [] w W)=>(h.go hW).three);unfold maxLen at hm;clear h hr hat hzw ok;generalize zby s now (wd l 0)=rr at *;generalize zfd s now (wd l 0)=cc at *;generalize orR (z1z rr) cc false=q9 at *;generalize z00 s now (wd l 0)=y at *;generalize z18 s now (wd l 0)=bb at *;have ix0:(0:Int) < (l.length:Int):=by omega
 have F0:=zF2 w g;have P0:=zP0 w g;have Q0:=zQ0 w g;have F1:=zF3 F0;have V1:=zV1 w g;have hn1:¬g=w.heap.size+1+1:=by omega
 have hn2:¬w.heap.size+1+1=g:=by omega
 have hn3:¬b=w.heap.size+1+1:=by omega
 have hn4:¬w.heap.size+1+1=b:=by omega
 have hn5:¬w.heap.size=w.heap.size+1+1:=by omega
 have hn6:¬w.heap.size+1+1=w.heap.size:=by omega
 have ix0n:0 < l.length:=by omega
 have p0:=P0.out.cell 0;have p1:=(zP1 P0).cell 0;obtain⟨d0,d1,d2⟩:=DG.out _ F0.out;obtain⟨d3,d4,d5⟩:=DG.out _ F1.out;have d6:=F0.out.cell (HAT.out 0 (by omega)) (by simp);have d7:=F1.out.cell (HAT.out 0 (by omega)) (by simp);rw[Nat.add_zero] at d6 d7;go_enter Tryz.func183,Tryz.ntmps183;go_upto_region 1 with fail;go_cut [5,6] (fun pb po wx=>po=.bool bb∧z89 B0 y ((w.alloc (.cells #[.pointer (some ⟨g,0,none⟩)] 154)).alloc (.cells yRza 27)) pb wx)
 case first=>
  go_region_held3 (fun wx=>wx.cell? ⟨w.heap.size,0,none⟩=some (.pointer (some ⟨g,0,none⟩))∧wx.cell? ⟨g,0,none⟩=some (.slice SA s.length sc)∧wx.cell? ⟨g,1,none⟩=some (.int .i64 now)∧wx.cell? ⟨g,2,none⟩=some (.slice (some ⟨b,off,none⟩) l.length lc)∧wx.cell? ⟨b,off,none⟩=some (.string (wd l 0))) (go_keep) ((go_at_call 162;first|(refine(LK.out _ F0.out.drew).mono ?_;rintro e1 w1 ⟨A1,c1,A2,c2,A3,c3,rfl,hc,f1⟩;have F2:=hid (z01 f1);have F3:=hid (F0.out.trans F2.out);have HC:=hid hc;obtain⟨z0,z1,z2⟩:=DG.out _ F3.out;have z3:=F3.out.cell (HAT.out 0 (by omega)) (by simp);rw[Nat.add_zero] at z3;have z4:=(P0.out.f0 F2.out).cell 0;clear f1 hc)|(refine(LK.out _ F1.out.drew).mono ?_;rintro e1 w1 ⟨A1,c1,A2,c2,A3,c3,rfl,hc,f1⟩;have F2:=hid (z2b (z01 f1));have F3:=hid (F1.out.trans (z01 f1));have HC:=hid hc;have V2:=hid (V1.out.f0 (z01 f1));obtain⟨z0,z1,z2⟩:=DG.out _ F3.out;have z3:=F3.out.cell (HAT.out 0 (by omega)) (by simp);rw[Nat.add_zero] at z3;have z4:=((P0.out.alloc (.cells yEza 81)).f0 (z01 f1)).cell 0;have y7:=seven V2.out;have z7:=z3u V2.out;clear f1 hc)))
  all_goals
   go_wp2;go_meet
   case rel=>first|with_reducible exact⟨rfl,z89.new HC.out F2.out⟩|exact⟨rfl,z89.put HC.out F2.out (by simp) V2.out⟩
 clear d0 d1 d2 d3 d4 d5 d6 d7 p0 p1;obtain⟨rfl,gb,A1,c1,A2,c2,A3,c3,rfl,hgb,hw,hc,hf⟩:=hcut;have HC:=hid hc;have hgb2:w.heap.size+1 < gb:=by simp at hgb;omega
 have KW:=zKW H P0 Q0 F0 hf hw hgb2;clear hf hw hc hgb hn1 hn2 hn3 hn4 hn5 hn6;have hz1:¬w.heap.size=w.heap.size+1:=by omega
 have hz2:¬g=w.heap.size+1:=by omega
 have hz3:¬gb=w.heap.size+1:=by omega
 have hz4:¬w.heap.size+1=gb:=by omega
 have hz5:¬w.heap.size+1=g:=by omega
 have hz6:¬b=w.heap.size+1:=by omega
 have hz7:¬w.heap.size+1=b:=by omega
 have ix0n:0 < l.length:=by omega
 have KD:=hid KW.out.drew;have p0:=(KD.out.bl _ (.head _)).cell 0;obtain⟨d0,d1,d2⟩:=KD.out.d.three;have d3:=KD.out.f.cell (HAT.out 0 (by omega)) (by simp);rw[Nat.add_zero] at d3;go_upto_region 10 with fail;go_region_held3 (fun wx=>wx.cell? ⟨w.heap.size,0,none⟩=some (.pointer (some ⟨g,0,none⟩))∧wx.cell? ⟨g,0,none⟩=some (.slice SA s.length sc)∧wx.cell? ⟨g,1,none⟩=some (.int .i64 now)∧wx.cell? ⟨g,2,none⟩=some (.slice (some ⟨b,off,none⟩) l.length lc)∧wx.cell? ⟨b,off,none⟩=some (.string (wd l 0))) (go_keep) ((first|(go_at_call 109;refine(SK.out _ _ KD.out.d.e.v).mono ?_;rintro e7 w7 ⟨AK,nk,rfl,hk7,f7⟩;have K7:=hid (KD.out.go f7);have OK7:=hid (z0s hk7);clear hk7 f7 p0 d0 d1 d2 d3;have p0:=(K7.out.bl _ (.head _)).cell 0;obtain⟨d0,d1,d2⟩:=K7.out.d.three;have d3:=K7.out.f.cell (HAT.out 0 (by omega)) (by simp);rw[Nat.add_zero] at d3)|(go_at_call 245;refine(DL.out _ _ OK7.out).mono ?_;rintro e8 w8 ⟨u8,rfl,hu8,f8⟩;have K8:=hid (K7.out.go f8);have HU8:=hid (hu8.base (show w.heap.size+1+1≤_ from(by have:=(K7.out.bl _ (.tail _ (.head _))).lt;exact this)));obtain⟨S,sc9,rfl⟩:=hu8.form;clear hu8 f8 p0 d0 d1 d2 d3;have p0:=(K8.out.bl _ (.head _)).cell 0;obtain⟨d0,d1,d2⟩:=K8.out.d.three;have d3:=K8.out.f.cell (HAT.out 0 (by omega)) (by simp);rw[Nat.add_zero] at d3;obtain⟨y0,y1,y2,y3⟩:=four (K8.out.bl _ (.tail _ (.head _)));obtain⟨z0,z1,z2,z3⟩:=z0h (K8.out.bl _ (.tail _ (.head _))))))
 go_wp2;refine bodyPost_ret (v:=.agg (yRa q9 S sc9)) (by simp[results,Tryz.results183,go_sem,y0,y1,y2,y3]) rfl ?_;exact ChD.fin4o (Nat.le_succ _) HU8.out K8.out.f.up (K8.out.bl _ (.tail _ (.head _))) hbz (fun _=>⟨_,K8.out.d⟩)
theorem zkq(ok:z1y s)(hn:1≤l.length)(h12:l.length≤11)(hz:∀t∈l,t.size≤60)(hk:z18 s now (wd l 0)=false)(h:Dr g B0 sv now lv l s w):
  Calls prog 183 #[.pointer (some ⟨g,0,none⟩),.string ⟨#[112,101,114,115,105,115,116]⟩] w (ChD g B0 B0 sv now lv l (doC .persist s now (c0 :: l)) w):=by
 have LT:=z2l ok now (wd l 0)
 have EP:doC .persist s now (c0 :: l)=(s,z0o 0):=by
  show(if (z00 s now (wd l 0)).item.kind=0∨(z00 s now (wd l 0)).til=0 then (s,z0o 0) else _)=_;rw[hk] at LT;rw[if_pos (.inl (by simpa using LT.symm))]
 rw[EP];exact z9v _ 0 g B0 sv now lv l s w ok (by omega) h (.inr (.inr (.inl ⟨rfl,rfl,hk⟩)))
theorem zk4(ok:z1y s)(hn:1≤l.length)(h12:l.length≤11)(hz:∀t∈l,t.size≤60)(hk:(z18 s now (wd l 0)=true∧(z00 s now (wd l 0)).til=0))(h:Dr g B0 sv now lv l s w):
  Calls prog 183 #[.pointer (some ⟨g,0,none⟩),.string ⟨#[112,101,114,115,105,115,116]⟩] w (ChD g B0 B0 sv now lv l (doC .persist s now (c0 :: l)) w):=by
 have LT:=z2l ok now (wd l 0)
 have EP:doC .persist s now (c0 :: l)=(s,z0o 0):=by
  show(if (z00 s now (wd l 0)).item.kind=0∨(z00 s now (wd l 0)).til=0 then (s,z0o 0) else _)=_;rw[if_pos (.inr hk.2)]
 rw[EP];exact z9v _ 0 g B0 sv now lv l s w ok (by omega) h (.inr (.inr (.inr (.inl ⟨rfl,rfl,hk⟩))))
theorem zku(ok:z1y s)(hn:1≤l.length)(h12:l.length≤11)(hz:∀t∈l,t.size≤60)(hk:(z18 s now (wd l 0)=true∧(z00 s now (wd l 0)).til≠0))(h:Dr g B0 sv now lv l s w):
  Calls prog 183 #[.pointer (some ⟨g,0,none⟩),.string ⟨#[112,101,114,115,105,115,116]⟩] w (ChD g B0 B0 sv now lv l (doC .persist s now (c0 :: l)) w):=by
 have hr:=ok.rise;have hs16:=ok.le;have LS:=hid (z0b (z09 ok) now (wd l 0)).item;have LT:=z2l ok now (wd l 0)
 have KY:(z00 s now (wd l 0)).key=wd l 0:=by
  rcases z5a ok now (wd l 0) with⟨_,h2⟩|⟨_,_,_,h4⟩
  ·rw[hk.1] at h2;cases h2
  ·exact h4
 have EP:doC .persist s now (c0 :: l)=(if z28 s now (z00 s now (wd l 0)).key (z00 s now (wd l 0)).item 0=0 then z8g s now (z00 s now (wd l 0)).key (z00 s now (wd l 0)).item 0 else s,orR (z0o 1) (z28 s now (z00 s now (wd l 0)).key (z00 s now (wd l 0)).item 0) false):=by
  show(if (z00 s now (wd l 0)).item.kind=0∨(z00 s now (wd l 0)).til=0 then (s,z0o 0) else fin s now (wd l 0) (z00 s now (wd l 0)).item 0 true false 0 (z0o 1))=_;rw[hk.1] at LT;rw[if_neg (fun h=>h.elim (by simpa using LT.symm) hk.2)];rw[KY];unfold fin orR;rw[if_pos rfl,if_pos rfl];split
  ·rfl
  ·rw[if_neg (fun h=>by cases h.2)]
 have PT:=hid (fun W yv (hd:Dr g B0 sv now lv l s W) (hy:z0q W B0 yv (z00 s now (wd l 0)).item)=>zab g B0 sv now lv l s (z00 s now (wd l 0)).key (z00 s now (wd l 0)).item yv 0 W hr (by omega) LS.out hd hy);obtain⟨pp,hpp⟩:∃pp,pp=(if z28 s now (z00 s now (wd l 0)).key (z00 s now (wd l 0)).item 0=0 then z8g s now (z00 s now (wd l 0)).key (z00 s now (wd l 0)).item 0 else s,orR (z0o 1) (z28 s now (z00 s now (wd l 0)).key (z00 s now (wd l 0)).item 0) false):=⟨_,rfl⟩;rw[EP,←hpp];have HPP:=hid hpp;clear EP LT KY hpp;have LK:=hid (fun W (hW:Fr [] w W)=>z1g s sv now (wd l 0) W B0 hr (by omega) (h.e.fr hW));have H:=hid h;have hlt:=h.lt;have hbz:=h.bz;obtain⟨SA,sc,rfl⟩:=h.sform;obtain⟨LA,lc,rfl⟩:=h.lform;obtain⟨b,off,rfl,hb,hc,hm,hat⟩:=h.word (by omega);have HAT:=hid hat;have DG:=hid (fun W (hW:Fr [] w W)=>(h.go hW).three);unfold maxLen at hm;clear h hr hat ok;generalize z8g s now (z00 s now (wd l 0)).key (z00 s now (wd l 0)).item 0=s2 at *;generalize z28 s now (z00 s now (wd l 0)).key (z00 s now (wd l 0)).item 0=pc at *;generalize z00 s now (wd l 0)=y at *;generalize z18 s now (wd l 0)=bb at *;have ix0:(0:Int) < (l.length:Int):=by omega
 have HB:=hid hk.1;have q3:(y.til==0)=false:=by simpa using hk.2
 clear hk;have F0:=zF2 w g;have P0:=zP0 w g;have Q0:=zQ0 w g;have F1:=zF3 F0;have V1:=zV1 w g;have hn1:¬g=w.heap.size+1+1:=by omega
 have hn2:¬w.heap.size+1+1=g:=by omega
 have hn3:¬b=w.heap.size+1+1:=by omega
 have hn4:¬w.heap.size+1+1=b:=by omega
 have hn5:¬w.heap.size=w.heap.size+1+1:=by omega
 have hn6:¬w.heap.size+1+1=w.heap.size:=by omega
 have ix0n:0 < l.length:=by omega
 have p0:=P0.out.cell 0;have p1:=(zP1 P0).cell 0;obtain⟨d0,d1,d2⟩:=DG.out _ F0.out;obtain⟨d3,d4,d5⟩:=DG.out _ F1.out;have d6:=F0.out.cell (HAT.out 0 (by omega)) (by simp);have d7:=F1.out.cell (HAT.out 0 (by omega)) (by simp);rw[Nat.add_zero] at d6 d7;go_enter Tryz.func183,Tryz.ntmps183;go_upto_region 1 with fail;go_cut [5,6] (fun pb po wx=>po=.bool bb∧z89 B0 y ((w.alloc (.cells #[.pointer (some ⟨g,0,none⟩)] 154)).alloc (.cells yRza 27)) pb wx)
 case first=>
  go_region_held3 (fun wx=>wx.cell? ⟨w.heap.size,0,none⟩=some (.pointer (some ⟨g,0,none⟩))∧wx.cell? ⟨g,0,none⟩=some (.slice SA s.length sc)∧wx.cell? ⟨g,1,none⟩=some (.int .i64 now)∧wx.cell? ⟨g,2,none⟩=some (.slice (some ⟨b,off,none⟩) l.length lc)∧wx.cell? ⟨b,off,none⟩=some (.string (wd l 0))) (go_keep) ((go_at_call 162;first|(refine(LK.out _ F0.out.drew).mono ?_;rintro e1 w1 ⟨A1,c1,A2,c2,A3,c3,rfl,hc,f1⟩;have F2:=hid (z01 f1);have F3:=hid (F0.out.trans F2.out);have HC:=hid hc;obtain⟨z0,z1,z2⟩:=DG.out _ F3.out;have z3:=F3.out.cell (HAT.out 0 (by omega)) (by simp);rw[Nat.add_zero] at z3;have z4:=(P0.out.f0 F2.out).cell 0;clear f1 hc)|(refine(LK.out _ F1.out.drew).mono ?_;rintro e1 w1 ⟨A1,c1,A2,c2,A3,c3,rfl,hc,f1⟩;have F2:=hid (z2b (z01 f1));have F3:=hid (F1.out.trans (z01 f1));have HC:=hid hc;have V2:=hid (V1.out.f0 (z01 f1));obtain⟨z0,z1,z2⟩:=DG.out _ F3.out;have z3:=F3.out.cell (HAT.out 0 (by omega)) (by simp);rw[Nat.add_zero] at z3;have z4:=((P0.out.alloc (.cells yEza 81)).f0 (z01 f1)).cell 0;have y7:=seven V2.out;have z7:=z3u V2.out;clear f1 hc)))
  all_goals
   go_wp2;go_meet
   case rel=>first|with_reducible exact⟨rfl,z89.new HC.out F2.out⟩|exact⟨rfl,z89.put HC.out F2.out (by simp) V2.out⟩
 clear d0 d1 d2 d3 d4 d5 d6 d7 p0 p1;obtain⟨rfl,gb,A1,c1,A2,c2,A3,c3,rfl,hgb,hw,hc,hf⟩:=hcut;have HC:=hid hc;have hgb2:w.heap.size+1 < gb:=by simp at hgb;omega
 have KW:=zKW H P0 Q0 F0 hf hw hgb2;clear hf hw hc hgb hn1 hn2 hn3 hn4 hn5 hn6;have hb9:=HB.out;clear HB;subst hb9;have hz1:¬w.heap.size=w.heap.size+1:=by omega
 have hz2:¬g=w.heap.size+1:=by omega
 have hz3:¬gb=w.heap.size+1:=by omega
 have hz4:¬w.heap.size+1=gb:=by omega
 have hz5:¬w.heap.size+1=g:=by omega
 have hz6:¬b=w.heap.size+1:=by omega
 have hz7:¬w.heap.size+1=b:=by omega
 have p0:=(KW.out.bl _ (.head _)).cell 0;obtain⟨e0,e1,e2,e3,e4,e5,e6⟩:=seven (KW.out.bl _ (.tail _ (.tail _ (.head _))));go_upto_region 20 with fail;have KD:=hid KW.out.drew;have HD:=hid (HC.out.fr (Fr.refl [] _).drew);clear KW HC;have KW:=KD;have HC:=HD;clear KD HD;go_region_held3 (fun wx=>wx.cell? ⟨w.heap.size,0,none⟩=some (.pointer (some ⟨g,0,none⟩))∧wx.cell? ⟨gb,0,none⟩=some (.string y.key)∧wx.cell? ⟨gb,1,none⟩=some (.int .i64 y.item.kind)∧wx.cell? ⟨gb,2,none⟩=some (.string y.item.text)∧wx.cell? ⟨gb,3,none⟩=some (.slice A1 y.item.list.length c1)∧wx.cell? ⟨gb,4,none⟩=some (.slice A2 y.item.pairs.length c2)∧wx.cell? ⟨gb,5,none⟩=some (.slice A3 y.item.scores.length c3)) (go_keep) ((first|(go_at_call 237;refine(z0m _ _).mono ?_;rintro e5 w5 ⟨rfl,f5⟩;have KN:=hid (KW.out.go f5);have HCN:=hid (HC.out.fr f5);clear KW HC p0 e0 e1 e2 e3 e4 e5 e6;have KW:=KN;have HC:=HCN;clear KN HCN f5;have p0:=(KW.out.bl _ (.head _)).cell 0;obtain⟨e0,e1,e2,e3,e4,e5,e6⟩:=seven (KW.out.bl _ (.tail _ (.tail _ (.head _)))))|(go_at_call 233;refine(PT.out _ _ KW.out.d HC.out.item).mono ?_;rintro e6 w6 ⟨rfl,f6,sv6,hg6,hd6⟩;have WB:=hid (KW.out.keep H.out f6);have F6:=hid (KW.out.f.up.trans f6);have D6:=hid hd6;have G6:=hid hg6;clear f6 hg6 hd6 p0 e0 e1 e2 e3 e4 e5 e6;have p0:=(WB.out _ (.head _)).cell 0;obtain⟨e0,e1,e2,e3,e4,e5,e6⟩:=seven (WB.out _ (.tail _ (.tail _ (.head _)))))|(go_at_call 231;refine(z4p (z0o 1) _ pc false (w.heap.size+1+1) _ (z19.bare _ _ _ _ _)).mono ?_;rintro e8 w8 ⟨rfl,f8⟩;have F8:=hid (F6.out.trans f8.up);have f8':=hid f8;have WB8:=hid (fun p hp=>(WB.out p hp).f0 f8);clear f8 p0 e0 e1 e2 e3 e4 e5 e6;have p0:=(WB8.out _ (.head _)).cell 0;obtain⟨e0,e1,e2,e3,e4,e5,e6⟩:=seven (WB8.out _ (.tail _ (.tail _ (.head _))));obtain⟨y0,y1,y2,y3⟩:=four (WB8.out _ (.tail _ (.head _)));obtain⟨z0,z1,z2,z3⟩:=z0h (WB8.out _ (.tail _ (.head _)));have HV:=hid (show z19 w8 (w.heap.size+1+1) (orV (.agg #[.int .i64 3,.string ⟨#[]⟩,.int .i64 1,.slice none 0 0]) pc false) (orR (z0o 1) pc false) from z8o (z19.bare _ _ _ _ _) pc false);obtain⟨S,sc9,hS⟩:=HV.out.form;have HS9:=hid hS;clear hS;rw[HS9.out])))
 have HV9:=hid (show z19 w8 (w.heap.size+1+1) (.agg #[.int .i64 (orR (z0o 1) pc false).kind,.string (orR (z0o 1) pc false).text,.int .i64 (orR (z0o 1) pc false).n,.slice S (orR (z0o 1) pc false).list.length sc9]) (orR (z0o 1) pc false) from by have:=HV.out;rw[HS9.out] at this;exact this)
 have HD9:=hid (show(orR (z0o 1) pc false).kind≠2→∃sv',Dr g B0 sv' now (.slice (some ⟨b,off,none⟩) l.length lc) l (if pc=0 then s2 else s) w8 from fun hk=>by
  by_cases hp:pc=0
  ·rw[if_pos hp];exact⟨_,(D6.out hp).go f8'.out⟩
  ·exact absurd (show(orR (z0o 1) pc false).kind=2 from by unfold orR;rw[if_neg hp,if_neg (fun h=>by cases h.2)];rfl) hk)
 generalize (if pc=0 then s2 else s)=sf at *;generalize orR (z0o 1) pc false=q9 at *;go_wp2;refine bodyPost_ret (v:=.agg (yRa q9 S sc9)) (by simp[results,Tryz.results183,go_sem,y0,y1,y2,y3]) rfl ?_;rw[HPP.out];exact ChD.fin4o (Nat.le_succ _) HV9.out F8.out (WB8.out _ (.tail _ (.head _))) hbz HD9.out
theorem zmz(ok:z1y s)(hn:1≤l.length)(h12:l.length≤11)(hz:∀t∈l,t.size≤60)(h:Dr g B0 sv now lv l s w):
  Calls prog 183 #[.pointer (some ⟨g,0,none⟩),.string ⟨#[112,101,114,115,105,115,116]⟩] w (ChD g B0 B0 sv now lv l (doC .persist s now (c0 :: l)) w):=by
 rcases hb:z18 s now (wd l 0) with _|_
 ·exact zkq g B0 sv now lv l s c0 w ok hn h12 hz hb h
 ·by_cases ht:(z00 s now (wd l 0)).til=0
  ·exact zk4 g B0 sv now lv l s c0 w ok hn h12 hz ⟨hb,ht⟩ h
  ·exact zku g B0 sv now lv l s c0 w ok hn h12 hz ⟨hb,ht⟩ h
theorem zmy(ok:z1y s)(hn:2≤l.length)(h12:l.length≤11)(hz:∀t∈l,t.size≤60)(hk:z18 s now (wd l 0)=false)(h:Dr g B0 sv now lv l s w):
  Calls prog 183 #[.pointer (some ⟨g,0,none⟩),.string ⟨#[101,120,112,105,114,101]⟩] w (ChD g B0 B0 sv now lv l (doC .expire s now (c0 :: l)) w):=by
 have LT:=z2l ok now (wd l 0)
 have EP:doC .expire s now (c0 :: l)=(s,z0o 0):=by
  show(if (z00 s now (wd l 0)).item.kind=0 then (s,z0o 0) else _)=_;rw[hk] at LT;rw[if_pos (by simpa using LT.symm)]
 rw[EP];exact z9v _ 0 g B0 sv now lv l s w ok (by omega) h (.inr (.inr (.inr (.inr ⟨rfl,rfl,hk⟩))))
theorem zoq(ok:z1y s)(hn:2≤l.length)(h12:l.length≤11)(hz:∀t∈l,t.size≤60)(n1:Int)(h1:z2z (wd l 1).data.toList=some n1)(hv:Vars w)(h0:0≤now∧now≤1000000)(hk:z18 s now (wd l 0)=true)(h:Dr g B0 sv now lv l s w):
  Calls prog 183 #[.pointer (some ⟨g,0,none⟩),.string ⟨#[101,120,112,105,114,101]⟩] w (ChD g B0 B0 sv now lv l (doC .expire s now (c0 :: l)) w):=by
 have hr:=ok.rise;have hs16:=ok.le;have LS:=hid (z0b (z09 ok) now (wd l 0)).item;have LT:=z2l ok now (wd l 0);have bn9:=zxq h1;have en1:wn (c0 :: l) 2=n1:=by show(z2z (wd l 1).data.toList).getD 0=n1;rw[h1];rfl
 have bn1:=z77 h1;have I1:=zI1 (by omega) hz h1 hv h;clear h1 hv
 have KY:(z00 s now (wd l 0)).key=wd l 0:=by
  rcases z5a ok now (wd l 0) with⟨_,h2⟩|⟨_,_,_,h4⟩
  ·rw[hk] at h2;cases h2
  ·exact h4
 have EP:doC .expire s now (c0 :: l)=zza s now (z00 s now (wd l 0)) n1:=by
  show(if (z00 s now (wd l 0)).item.kind=0 then (s,z0o 0) else if wn (c0 :: l) 2 < 1 then fin s now (wd l 0) (z2p 0) (now+wn (c0 :: l) 2) true false 0 (z0o 1) else fin s now (wd l 0) (z00 s now (wd l 0)).item (now+wn (c0 :: l) 2) true false (if 1000000 < now+wn (c0 :: l) 2 then 3 else 0) (z0o 1))=_;rw[hk] at LT;rw[if_neg (by simpa using LT.symm),en1];unfold zza;rw[KY];by_cases a1:n1 < 1
  ·rw[if_pos a1,if_pos a1];unfold fin;rw[if_pos rfl,if_pos rfl,if_pos (z9g _ _ _ _).2,(z9g _ _ _ _).1]
  ·rw[if_neg a1,if_neg a1];by_cases a2:1000000 < now+n1
   ·rw[if_pos a2,if_pos a2];rfl
   ·rw[if_neg a2,if_neg a2];unfold fin orR;rw[if_pos rfl,if_pos rfl];split
    ·rfl
    ·rw[if_neg (fun h=>by cases h.2)]
 have XP:=hid (fun W A1 c1 A2 c2 A3 c3 (hd:Dr g B0 sv now lv l s W) (hc:z2o W B0 (z8f (z00 s now (wd l 0)) A1 c1 A2 c2 A3 c3) (z00 s now (wd l 0)))=>zk3 g B0 sv now lv l s (z00 s now (wd l 0)) A1 c1 A2 c2 A3 c3 n1 W hr (by omega) LS.out h0 bn9 hd hc);rw[EP];clear EP LT KY bn9 en1;have LK:=hid (fun W (hW:Fr [] w W)=>z1g s sv now (wd l 0) W B0 hr (by omega) (h.e.fr hW));have H:=hid h;have hlt:=h.lt;have hbz:=h.bz;obtain⟨SA,sc,rfl⟩:=h.sform;obtain⟨LA,lc,rfl⟩:=h.lform;obtain⟨b,off,rfl,hb,hc,hm,hat⟩:=h.word (by omega);have HAT:=hid hat;have DG:=hid (fun W (hW:Fr [] w W)=>(h.go hW).three);unfold maxLen at hm;clear h hr hat ok;generalize zza s now (z00 s now (wd l 0)) n1=pp at *;generalize z00 s now (wd l 0)=y at *;generalize z18 s now (wd l 0)=bb at *;have ix0:(0:Int) < (l.length:Int):=by omega
 have HB:=hid hk;clear hk;have F0:=zF2 w g;have P0:=zP0 w g;have Q0:=zQ0 w g;have F1:=zF3 F0;have V1:=zV1 w g;have hn1:¬g=w.heap.size+1+1:=by omega
 have hn2:¬w.heap.size+1+1=g:=by omega
 have hn3:¬b=w.heap.size+1+1:=by omega
 have hn4:¬w.heap.size+1+1=b:=by omega
 have hn5:¬w.heap.size=w.heap.size+1+1:=by omega
 have hn6:¬w.heap.size+1+1=w.heap.size:=by omega
 have ix0n:0 < l.length:=by omega
 have p0:=P0.out.cell 0;have p1:=(zP1 P0).cell 0;obtain⟨d0,d1,d2⟩:=DG.out _ F0.out;obtain⟨d3,d4,d5⟩:=DG.out _ F1.out;have d6:=F0.out.cell (HAT.out 0 (by omega)) (by simp);have d7:=F1.out.cell (HAT.out 0 (by omega)) (by simp);rw[Nat.add_zero] at d6 d7;go_enter Tryz.func183,Tryz.ntmps183;go_upto_region 1 with fail;go_cut [5,6] (fun pb po wx=>po=.bool bb∧z89 B0 y ((w.alloc (.cells #[.pointer (some ⟨g,0,none⟩)] 154)).alloc (.cells yRza 27)) pb wx)
 case first=>
  go_region_held3 (fun wx=>wx.cell? ⟨w.heap.size,0,none⟩=some (.pointer (some ⟨g,0,none⟩))∧wx.cell? ⟨g,0,none⟩=some (.slice SA s.length sc)∧wx.cell? ⟨g,1,none⟩=some (.int .i64 now)∧wx.cell? ⟨g,2,none⟩=some (.slice (some ⟨b,off,none⟩) l.length lc)∧wx.cell? ⟨b,off,none⟩=some (.string (wd l 0))) (go_keep) ((go_at_call 162;first|(refine(LK.out _ F0.out.drew).mono ?_;rintro e1 w1 ⟨A1,c1,A2,c2,A3,c3,rfl,hc,f1⟩;have F2:=hid (z01 f1);have F3:=hid (F0.out.trans F2.out);have HC:=hid hc;obtain⟨z0,z1,z2⟩:=DG.out _ F3.out;have z3:=F3.out.cell (HAT.out 0 (by omega)) (by simp);rw[Nat.add_zero] at z3;have z4:=(P0.out.f0 F2.out).cell 0;clear f1 hc)|(refine(LK.out _ F1.out.drew).mono ?_;rintro e1 w1 ⟨A1,c1,A2,c2,A3,c3,rfl,hc,f1⟩;have F2:=hid (z2b (z01 f1));have F3:=hid (F1.out.trans (z01 f1));have HC:=hid hc;have V2:=hid (V1.out.f0 (z01 f1));obtain⟨z0,z1,z2⟩:=DG.out _ F3.out;have z3:=F3.out.cell (HAT.out 0 (by omega)) (by simp);rw[Nat.add_zero] at z3;have z4:=((P0.out.alloc (.cells yEza 81)).f0 (z01 f1)).cell 0;have y7:=seven V2.out;have z7:=z3u V2.out;clear f1 hc)))
  all_goals
   go_wp2;go_meet
   case rel=>first|with_reducible exact⟨rfl,z89.new HC.out F2.out⟩|exact⟨rfl,z89.put HC.out F2.out (by simp) V2.out⟩
 clear d0 d1 d2 d3 d4 d5 d6 d7 p0 p1;obtain⟨rfl,gb,A1,c1,A2,c2,A3,c3,rfl,hgb,hw,hc,hf⟩:=hcut;have HC:=hid hc;have hgb2:w.heap.size+1 < gb:=by simp at hgb;omega
 have KW:=zKW H P0 Q0 F0 hf hw hgb2;clear hf hw hc hgb hn1 hn2 hn3 hn4 hn5 hn6;have hb9:=HB.out;clear HB;subst hb9;have hz1:¬w.heap.size=w.heap.size+1:=by omega
 have hz2:¬g=w.heap.size+1:=by omega
 have hz3:¬gb=w.heap.size+1:=by omega
 have hz4:¬w.heap.size+1=gb:=by omega
 have hz5:¬w.heap.size+1=g:=by omega
 have hz6:¬b=w.heap.size+1:=by omega
 have hz7:¬w.heap.size+1=b:=by omega
 have p0:=(KW.out.bl _ (.head _)).cell 0;obtain⟨e0,e1,e2,e3,e4,e5,e6⟩:=seven (KW.out.bl _ (.tail _ (.tail _ (.head _))));go_upto_region 23 with fail;have KD:=hid KW.out.drew;have HD:=hid (HC.out.fr (Fr.refl [] _).drew);go_region_held3 (fun wx=>wx.cell? ⟨w.heap.size,0,none⟩=some (.pointer (some ⟨g,0,none⟩))∧yEc wx gb y A1 c1 A2 c2 A3 c3) ((simp only[yEc];go_keep)) ((first|(go_at_call 240;refine(I1.out _ KD.out.f).mono ?_;rintro e5 w5 ⟨rfl,f5⟩;have K5:=hid (KD.out.go f5);have HC5:=hid (HD.out.fr f5);clear f5 p0 e0 e1 e2 e3 e4 e5 e6;have p0:=(K5.out.bl _ (.head _)).cell 0;obtain⟨e0,e1,e2,e3,e4,e5,e6⟩:=seven (K5.out.bl _ (.tail _ (.tail _ (.head _)))))|(go_at_call 246;refine(XP.out _ _ _ _ _ _ _ K5.out.d HC5.out).mono ?_;rintro e8 w8 ⟨u,rfl,hu,f8,hd⟩;obtain⟨R,rc,rfl⟩:=hu.form;have WB8:=hid (K5.out.keep H.out f8);have HU:=hid (hu.base (show w.heap.size+1+1≤_ from(by have:=(K5.out.bl _ (.tail _ (.head _))).lt;exact this)));have HDD:=hid hd;have F8:=hid (K5.out.f.up.trans f8);clear f8 hu hd p0 e0 e1 e2 e3 e4 e5 e6;have p0:=(WB8.out _ (.head _)).cell 0;obtain⟨e0,e1,e2,e3,e4,e5,e6⟩:=seven (WB8.out _ (.tail _ (.tail _ (.head _))));obtain⟨y0,y1,y2,y3⟩:=four (WB8.out _ (.tail _ (.head _)));obtain⟨z0,z1,z2,z3⟩:=z0h (WB8.out _ (.tail _ (.head _))))))
 obtain⟨sp,pr⟩:=pp;go_wp2;refine bodyPost_ret (v:=.agg (yRa pr R rc)) (by simp[results,Tryz.results183,go_sem,y0,y1,y2,y3]) rfl ?_;exact ChD.fin4o (Nat.le_succ _) HU.out F8.out (WB8.out _ (.tail _ (.head _))) hbz HDD.out
theorem zql(ok:z1y s)(hn:2≤l.length)(h12:l.length≤11)(hz:∀t∈l,t.size≤60)(n1:Int)(h1:z2z (wd l 1).data.toList=some n1)(hv:Vars w)(h0:0≤now∧now≤1000000)(h:Dr g B0 sv now lv l s w):
  Calls prog 183 #[.pointer (some ⟨g,0,none⟩),.string ⟨#[101,120,112,105,114,101]⟩] w (ChD g B0 B0 sv now lv l (doC .expire s now (c0 :: l)) w):=by
 rcases hb:z18 s now (wd l 0) with _|_
 ·exact zmy g B0 sv now lv l s c0 w ok hn h12 hz hb h
 ·exact zoq g B0 sv now lv l s c0 w ok hn h12 hz n1 h1 hv h0 hb h
def RawN(l:List Ent)(base:Nat)(v:Value)(w:World)(r:Ending)(w':World):Prop:=∃u,r=.returned (.tuple #[u,.int .i64 0])∧z1s w' base u l∧Fr (z2f v) w w'∧∀k,k∈z2f u→k∈z2f v∨w.heap.size≤k
theorem zfg(l:List Ent)(v:Value)(now:Int)(s:ByteArray)(x:Itm)(xv:Value)(u:Int)(base:Nat)(w:World)(hr:rises (ltK Ent.key) l=true)(hl:l.length≤1000)(hsx:x.Small)(hn:z0t x=true)(h:z1s w base v l)(hx:z0q w base xv x)(hb:base≤w.heap.size):
  Calls prog 163 #[v,.int .i64 now,.string s,xv,.int .i64 u] w (RawN (z50 l s) base v w):=by
 obtain⟨A,c,rfl⟩:=h.form;obtain⟨X1,x1,X2,x2,X3,x3,rfl⟩:=hx.form;have D0:=hid (BX.new w (.int .i64 x.kind) (.string x.text) (.slice X1 x.list.length x1) (.slice X2 x.pairs.length x2) (.slice X3 x.scores.length x3));have FD:=hid (fun W (hW:Fr [] w W)=>z9s l s A c w.heap.size W hr (by omega) hW.size ((h.v.fr hW (Nat.le_refl _) (by simp))));unfold z4c at FD;have HO:=hid h;have HX:=hid hx;have HSX:=hid hsx;have LOFF:=zpk l s
 have HLT:∀k,k∈z2f (.slice A l.length c)→k < w.heap.size:=fun k hk=>by
  obtain⟨rs0,_,_,h30⟩:=h;exact zgm h30 k hk
 have HLT2:=hid HLT;have HR:=hid hr;clear h hx hsx HLT hr;go_enter Tryz.func163,Tryz.ntmps163;go_wp2_with fail;refine(FD.out _ D0.out.f).mono ?_;rintro e1 w1 ⟨rfl,f1⟩;have D1:=hid (D0.out.go f1);have HO1:=hid (HO.out.fr D1.out.f);have HX1:=hid (HX.out.go D1.out.f);clear f1
 go_upto_if 20 with fail
 go_cut [0,13] (fun sv _ wx=>CutR (z50 l s) base (.slice A l.length c) (.agg (yIa x X1 x1 X2 x2 X3 x3)) x (yIl x X1 x1 X2 x2 X3 x3) w sv wx)
 case first=>
  rcases hh:z5y Ent.key l s with _|_
  ·have E:=hid (zk7 HR.out hh);go_wp2;go_meet
   case rel=>
    rw[E.out];exact⟨A,c,rfl,HO1.out,D1.out.f.up,fun k hk=>.inl hk,D1.out.b,HX1.out⟩
  ·have E:=hid (zkn HR.out hh)
   have hkl:z1x Ent.key l s < l.length:=by
    obtain⟨e,he,_⟩:=(z32 Ent.key).1 hh;exact(List.getElem?_eq_some_iff.1 he).1
   have DE:=hid (zrq l (z1x Ent.key l s) base (.slice A l.length c) w1 (by omega) hkl HO1.out);rw[←E.out] at DE;generalize z1x Ent.key l s=k at *;go_wp2_with fail;refine DE.out.mono ?_;rintro e2 w2 ⟨v2,rfl,ho,f2,hb2⟩;obtain⟨A2,c2,hv2⟩:=ho.form
   have HH:=hid (show CutR (z50 l s) base (.slice A l.length c) (.agg (yIa x X1 x1 X2 x2 X3 x3)) x (yIl x X1 x1 X2 x2 X3 x3) w v2 w2 from by
    subst hv2;obtain⟨rs1,_,_,hr1⟩:=HO1.out;exact⟨A2,c2,rfl,ho,D1.out.f.up.trans f2,fun q hq=>(hb2 q hq).imp id (fun h=>Nat.le_trans D1.out.f.size h),D1.out.b.fr f2 (fun hm=>by have:=HLT2.out _ hm;omega),zdl HX1.out hr1 z2t f2⟩)
   clear ho f2 hb2 hv2;go_wp2;go_meet
   case rel=>exact HH.out
 case rest=>
  obtain⟨A2,c2,rfl,ho,f2,hb2,hbx,hix⟩:=hcut;have HO2:=hid ho;have F2:=hid f2;have HB2:=hid hb2;have BX2:=hid hbx;have HX2:=hid hix;have hz2:=hbx.lt;clear ho f2 hb2 hbx hix FD HO HO1 HX HX1 D0 D1;obtain⟨d0,d1,d2,d3,d4⟩:=five BX2.out;have NO:=hid (z71 x (.agg (yIa x X1 x1 X2 x2 X3 x3)) _ _ HSX.out (Nat.le_refl _) HX2.out.item);rw[hn] at NO;clear hn;go_wp2_with fail;refine NO.out.mono ?_;rintro e3 w3 ⟨rfl,f3⟩;have F3:=hid f3;clear f3;go_wp2;go_ret2;exact⟨_,rfl,HO2.out.fr F3.out,F2.out.trans F3.out.up,HB2.out⟩
def PutN(g B0:Nat)(sv:Value)(now:Int)(lv:Value)(l:List ByteArray)(s':List Ent)(w:World)(e:Ending)(w':World):Prop:=
 e=.returned (.int .i64 0)∧Fr (g :: z2f sv) w w'∧∃sv',Dr g B0 sv' now lv l s' w'∧∀k,k∈z2f sv'→k∈z2f sv∨w.heap.size≤k
theorem zqs(g B0:Nat)(sv:Value)(now:Int)(lv:Value)(l:List ByteArray)(s:List Ent)(k:ByteArray)(w:World)(hr:rises (ltK Ent.key) s=true)(hl:s.length≤1000)(h:Dr g B0 sv now lv l s w):
  Calls prog 233 #[.pointer (some ⟨g,0,none⟩),.string k,.agg #[.int .i64 0,.string ⟨#[]⟩,.slice none 0 0,.slice none 0 0,.slice none 0 0],.int .i64 0] w (PutN g B0 sv now lv l (z50 s k) w):=by
 have RW:=hid (fun W (hW:Fr [] w W)=>zfg s sv now k (z2p 0) (.agg yIza) 0 B0 W hr hl z6v z3k (h.e.fr hW) (z0q.nothing _ _) (Nat.le_trans h.bz hW.size));have F0:=hid ((Fr.refl [] w).alloc (.cells yIza 65));have W0:=hid (Whole.new w 65 yIzl);have H:=hid h;have hoff:=h.off;have hlow:=h.low;have hwz:w.heap.size∉z2f sv:=fun hm=>by have:=(hlow _ (.tail _ hm)).2;omega
 have OFF:=hid hoff;have OFZ:=hid hwz;have hlt:=h.lt;have hbz:=h.bz;obtain⟨SA,sc,rfl⟩:=h.sform;obtain⟨d0,d1,d2⟩:=(h.go F0.out).three;obtain⟨a0,a1,a2,a3,a4⟩:=five W0.out;clear d2 h hr hoff hlow hwz;generalize z50 s k=s' at *;go_enter Tryz.func233,Tryz.ntmps233;go_wp2;go_region_held3 (fun wx=>wx.cell? ⟨g,0,none⟩=some (.slice SA s.length sc)∧wx.cell? ⟨g,1,none⟩=some (.int .i64 now)∧wx.cell? ⟨w.heap.size,0,none⟩=some (.int .i64 0)∧wx.cell? ⟨w.heap.size,1,none⟩=some (.string ⟨#[]⟩)∧wx.cell? ⟨w.heap.size,2,none⟩=some (.slice none 0 0)∧wx.cell? ⟨w.heap.size,3,none⟩=some (.slice none 0 0)∧wx.cell? ⟨w.heap.size,4,none⟩=some (.slice none 0 0)) (go_keep) ((go_at_call 163;refine(RW.out _ F0.out.drew).mono ?_;rintro e1 w1 ⟨uv,rfl,he,f1,fo⟩;have FO:=hid fo;have F1:=hid (F0.out.up.trans f1.dr);have W1:=hid (W0.out.fr f1.dr OFZ.out);have W2:=hid ((H.out.go F0.out).d.fr f1.dr OFF.out);obtain⟨UA,uc,rfl⟩:=he.form;have HE:=hid he;clear he f1 fo d0 d1 a0 a1 a2 a3 a4;obtain⟨a0,a1,a2,a3,a4⟩:=five W1.out;have d0:=W2.out.cell 0;have d1:=W2.out.cell 1));have D1:=W2.out;have hlt2:=D1.lt;obtain⟨y0,y1,y2⟩:w1.cell? ⟨g,0,none⟩=some (.slice SA s.length sc)∧w1.cell? ⟨g,1,none⟩=some (.int .i64 now)∧w1.cell? ⟨g,2,none⟩=some lv:=⟨D1.cell 0,D1.cell 1,D1.cell 2⟩;have y3:=D1.frozen 0;clear d0 d1 a0 a1 a2 a3 a4;go_wp2;go_ret;refine⟨rfl,(zdi F1.out).setCell (p:=⟨g,0,none⟩) (.inl (.head _)) _,_,⟨D1.set_ 0 _,HE.out.setW D1 (by decide) _,?_,H.out.gb⟩,fun j hj=>(FO.out j hj).imp id (fun h=>Nat.le_trans (Nat.le_succ _) (by simpa using h))⟩;exact H.out.l.fr ((zdi F1.out).setCell (p:=⟨g,0,none⟩) (.inl (.head _)) _) hbz (fun j hj=>(H.out.low j hj).1)
theorem zri(g B0 q:Nat)(sv:Value)(now:Int)(lv:Value)(l:List ByteArray)(s:List Ent)(k:ByteArray)(w:World)(hr:rises (ltK Ent.key) s=true)(hl:s.length≤1000)(h:Dr g B0 sv now lv l s w)(hq:Whole w q 154 [.pointer (some ⟨g,0,none⟩)]):
  Calls prog 242 (#[.string k]++#[.pointer (some ⟨q,0,none⟩)]) w fun e w'=>e=.returned (.bool (z18 s now k))∧Fr (g :: z2f sv) w w'∧∃sv',Dr g B0 sv' now lv l (z50 s k) w'∧∀k,k∈z2f sv'→k∈z2f sv∨w.heap.size≤k:=by
 have TH:=hid (zes g B0 sv now lv l s k w hr hl h);have PN:=hid (fun W (hd:Dr g B0 sv now lv l s W)=>zqs g B0 sv now lv l s k W hr hl hd);have H:=hid h;have HQ:=hid hq;have p0:=hq.cell 0;have hz:=hq.lt;clear h hq hr;generalize z18 s now k=bb at *;generalize z50 s k=s' at *;go_enter Tryz.func242,Tryz.ntmps242;go_wp2_with fail;refine TH.out.mono ?_;rintro e1 w1 ⟨rfl,f1⟩;have F1:=hid f1;have p1:=(HQ.out.f0 f1).cell 0;clear f1 p0;go_wp2_with fail;refine(PN.out _ (H.out.go F1.out)).mono ?_;rintro e2 w2 ⟨rfl,f2,sv2,hd2,ho2⟩;have F2:=hid (F1.out.up.trans f2);have HD2:=hid hd2;have HO2:=hid ho2;clear f2 hd2 ho2 p1;go_wp2;go_ret;exact⟨rfl,F2.out,sv2,HD2.out,fun j hj=>(HO2.out j hj).imp id (fun h=>Nat.le_trans F1.out.size h)⟩
theorem zkb{p:ByteArray→Bool}{l:List ByteArray}{k:Nat}{t:ByteArray}(h:l[k]? = some t):((l.take (k+1)).filter p).length=((l.take k).filter p).length+if p t=true then 1 else 0:=by
 rw[List.take_add_one,h];simp only[Option.toList_some,List.filter_append,List.length_append,List.filter_cons,List.filter_nil];split <;> simp
theorem zht(g B0:Nat)(sv:Value)(now:Int)(lv:Value)(l:List ByteArray)(s:List Ent)(w:World)(hr:rises (ltK Ent.key) s=true)(hl:s.length≤1000)(h12:l.length≤11)(h:Dr g B0 sv now lv l s w):
  Calls prog 241 #[.pointer (some ⟨g,0,none⟩),.func (Fn.func 243) #[.pointer (some ⟨g,0,none⟩)] #[]] w (zip 3 ⟨#[]⟩ ((l.filter fun k=>z18 s now k).length:Nat) w):=by
 have TH:=hid (fun W k (hW:Fr [] w W)=>zes g B0 sv now lv l s k W hr hl (h.go hW));have H:=hid h;have hbz:=h.bz;obtain⟨LA,lc,rfl⟩:=h.lform;obtain⟨x0,x1,x2⟩:=(h.go ((Fr.refl [] w).alloc (.cells yRza 27))).three;have F0:=zF w;have Q0:=zQ w;have HT:=hid (fun k t (hk:l[k]? = some t)=>zkb (p:=fun k=>z18 s now k) hk);clear h hr;go_enter Tryz.func241,Tryz.ntmps241;go_wp2;go_loopg [5,13] l.length (fun y n i wr=>∃(k:Nat),y=l.length - k∧k≤l.length∧n=.int .i64 (((l.take k).filter fun k=>z18 s now k).length:Nat)∧i=.int .i64 k∧Whole wr w.heap.size 27 [.int .i64 0,.string ⟨#[]⟩,.int .i64 0,.slice none 0 0]∧Fr [] w wr)
 case atStart=>exact⟨0,rfl,Nat.zero_le _,rfl,rfl,Q0.out,F0.out⟩
 case round=>
  obtain⟨k,rfl,hk,rfl,rfl,hq,hf⟩:=hrel;have Q:=hid hq;have F:=hid hf;clear hq hf x0 x1 x2;have hcl:((l.take k).filter fun k=>z18 s now k).length≤k:=Nat.le_trans (List.length_filter_le _ _) (by simp;omega);by_cases hlt:k < l.length
  ·obtain⟨b,off,rfl,hb,hc,hm,hat⟩:=H.out.word (by omega);have xw:=F.out.cell (hat k hlt) (by simp);have EK:l[k]? = some (wd l k):=by unfold wd;rw[List.getD_eq_getElem?_getD,List.getElem?_eq_getElem hlt];rfl
   have HT2:=hid (HT.out k _ EK);have TK:=hid (fun W (hW:Fr [] w W)=>TH.out W (wd l k) hW);unfold maxLen at hm;clear hat EK;generalize wd l k=t at *;generalize hlb:z18 s now t=bb at *;generalize ((l.take k).filter fun k=>z18 s now k).length=nn at *;clear hlb;go_wp2_with fail;refine(TK.out _ F.out).mono ?_;rintro e1 w1 ⟨rfl,f1⟩;have F1:=hid (F.out.trans f1);have Q1:=hid (Q.out.f0 f1);clear f1 xw;rcases bb with _|_
   all_goals
    go_wp2;go_roundg (l.length - (k+1))
    case measure=>omega
    case rel=>exact⟨k+1,rfl,by omega,by rw[HT2.out];first|rfl|go_num,by go_num,Q1.out,F1.out⟩
  ·obtain rfl:k=l.length:=by omega
   go_wp2_with fail;refine(z0m _ _).mono ?_;rintro e1 w1 ⟨rfl,f1⟩;have F1:=hid (F.out.trans f1);have Q1:=hid (Q.out.f0 f1);have ET:=hid (show(l.take l.length).filter (fun k=>z18 s now k)=l.filter (fun k=>z18 s now k) from by rw[List.take_length]);rw[ET.out];clear f1;obtain⟨y0,y1,y2,y3⟩:=four Q1.out;obtain⟨z0,z1,z2,z3⟩:=z0h Q1.out;go_wp2;refine bodyPost_ret (v:=.agg #[.int .i64 3,.string ⟨#[]⟩,.int .i64 ((l.filter fun k=>z18 s now k).length:Nat),.slice none 0 0]) (by simp[results,Tryz.results241,go_sem,y0,y1,y2,y3]) rfl ?_;exact⟨rfl,z0g F1.out (Nat.le_refl _) _ _ _ _⟩
theorem zoj(ok:z1y s)(hn:1≤l.length)(h12:l.length≤11)(hz:∀t∈l,t.size≤60)(h:Dr g B0 sv now lv l s w):
  Calls prog 183 #[.pointer (some ⟨g,0,none⟩),.string ⟨#[101,120,105,115,116,115]⟩] w (ChD g B0 B0 sv now lv l (doC .exists_ s now (c0 :: l)) w):=by
 have hr:=ok.rise;have hs16:=ok.le
 have EP:doC .exists_ s now (c0 :: l)=(s,z0o ((l.filter fun k=>z18 s now k).length:Nat)):=by
  show(s,z0o (((l.filter fun k=>z9a s now k).length:Nat)))=_;have:(fun k=>z9a s now k)=fun k=>z18 s now k:=funext fun k=>(z2l ok now k).symm;rw[this]
 have DT:=hid (fun W (hW:Fr [] w W)=>zht g B0 sv now lv l s W hr (by omega) h12 (h.go hW));rw[EP];clear EP;generalize (l.filter fun k=>z18 s now k).length=nn at *;have LK:=hid (fun W (hW:Fr [] w W)=>z1g s sv now (wd l 0) W B0 hr (by omega) (h.e.fr hW));have H:=hid h;have hlt:=h.lt;have hbz:=h.bz;obtain⟨SA,sc,rfl⟩:=h.sform;obtain⟨LA,lc,rfl⟩:=h.lform;obtain⟨b,off,rfl,hb,hc,hm,hat⟩:=h.word (by omega);have HAT:=hid hat;have DG:=hid (fun W (hW:Fr [] w W)=>(h.go hW).three);unfold maxLen at hm;clear h hr hat ok;generalize z00 s now (wd l 0)=y at *;generalize z18 s now (wd l 0)=bb at *;have ix0:(0:Int) < (l.length:Int):=by omega
 have F0:=zF2 w g;have P0:=zP0 w g;have Q0:=zQ0 w g;have F1:=zF3 F0;have V1:=zV1 w g;have hn1:¬g=w.heap.size+1+1:=by omega
 have hn2:¬w.heap.size+1+1=g:=by omega
 have hn3:¬b=w.heap.size+1+1:=by omega
 have hn4:¬w.heap.size+1+1=b:=by omega
 have hn5:¬w.heap.size=w.heap.size+1+1:=by omega
 have hn6:¬w.heap.size+1+1=w.heap.size:=by omega
 have ix0n:0 < l.length:=by omega
 have p0:=P0.out.cell 0;have p1:=(zP1 P0).cell 0;obtain⟨d0,d1,d2⟩:=DG.out _ F0.out;obtain⟨d3,d4,d5⟩:=DG.out _ F1.out;have d6:=F0.out.cell (HAT.out 0 (by omega)) (by simp);have d7:=F1.out.cell (HAT.out 0 (by omega)) (by simp);rw[Nat.add_zero] at d6 d7;go_enter Tryz.func183,Tryz.ntmps183;go_upto_region 1 with fail;go_cut [5,6] (fun pb po wx=>po=.bool bb∧z89 B0 y ((w.alloc (.cells #[.pointer (some ⟨g,0,none⟩)] 154)).alloc (.cells yRza 27)) pb wx)
 case first=>
  go_region_held3 (fun wx=>wx.cell? ⟨w.heap.size,0,none⟩=some (.pointer (some ⟨g,0,none⟩))∧wx.cell? ⟨g,0,none⟩=some (.slice SA s.length sc)∧wx.cell? ⟨g,1,none⟩=some (.int .i64 now)∧wx.cell? ⟨g,2,none⟩=some (.slice (some ⟨b,off,none⟩) l.length lc)∧wx.cell? ⟨b,off,none⟩=some (.string (wd l 0))) (go_keep) ((go_at_call 162;first|(refine(LK.out _ F0.out.drew).mono ?_;rintro e1 w1 ⟨A1,c1,A2,c2,A3,c3,rfl,hc,f1⟩;have F2:=hid (z01 f1);have F3:=hid (F0.out.trans F2.out);have HC:=hid hc;obtain⟨z0,z1,z2⟩:=DG.out _ F3.out;have z3:=F3.out.cell (HAT.out 0 (by omega)) (by simp);rw[Nat.add_zero] at z3;have z4:=(P0.out.f0 F2.out).cell 0;clear f1 hc)|(refine(LK.out _ F1.out.drew).mono ?_;rintro e1 w1 ⟨A1,c1,A2,c2,A3,c3,rfl,hc,f1⟩;have F2:=hid (z2b (z01 f1));have F3:=hid (F1.out.trans (z01 f1));have HC:=hid hc;have V2:=hid (V1.out.f0 (z01 f1));obtain⟨z0,z1,z2⟩:=DG.out _ F3.out;have z3:=F3.out.cell (HAT.out 0 (by omega)) (by simp);rw[Nat.add_zero] at z3;have z4:=((P0.out.alloc (.cells yEza 81)).f0 (z01 f1)).cell 0;have y7:=seven V2.out;have z7:=z3u V2.out;clear f1 hc)))
  all_goals
   go_wp2;go_meet
   case rel=>first|with_reducible exact⟨rfl,z89.new HC.out F2.out⟩|exact⟨rfl,z89.put HC.out F2.out (by simp) V2.out⟩
 clear d0 d1 d2 d3 d4 d5 d6 d7 p0 p1;obtain⟨rfl,gb,A1,c1,A2,c2,A3,c3,rfl,hgb,hw,hc,hf⟩:=hcut;have HC:=hid hc;have hgb2:w.heap.size+1 < gb:=by simp at hgb;omega
 have KW:=zKW H P0 Q0 F0 hf hw hgb2;clear hf hw hc hgb hn1 hn2 hn3 hn4 hn5 hn6;have p0:=(KW.out.bl _ (.head _)).cell 0;go_wp2_with fail;refine(DT.out _ KW.out.f).mono ?_;rintro e8 w8 ⟨rfl,f8⟩;have K8:=hid (KW.out.go f8);clear f8 p0;obtain⟨y0,y1,y2,y3⟩:=four (K8.out.bl _ (.tail _ (.head _)));obtain⟨z0,z1,z2,z3⟩:=z0h (K8.out.bl _ (.tail _ (.head _)));go_wp2;refine bodyPost_ret (v:=.agg #[.int .i64 3,.string ⟨#[]⟩,.int .i64 (nn:Int),.slice none 0 0]) (by simp[results,Tryz.results183,go_sem,y0,y1,y2,y3]) rfl ?_;exact ChD.fin4o (r:=z0o (nn:Int)) (Nat.le_succ _) (z19.bare _ _ _ _ _) K8.out.f.up (K8.out.bl _ (.tail _ (.head _))) hbz (fun _=>⟨_,K8.out.d⟩)
theorem zzj{s:List Ent}(h:z1y s)(k:ByteArray):z1y (z50 s k):=z8y h _
theorem zps(now:Int)(l:List ByteArray)(k:Nat)(t:ByteArray)(ht:l[k]? = some t)(s:List Ent)(n:Nat)(ok:z1y s):zj2 now (l.drop k) s n=zj2 now (l.drop (k+1)) (z50 s t) (n+if z18 s now t=true then 1 else 0):=by
 have hk:=(List.getElem?_eq_some_iff.1 ht).1;have:l.drop k=t :: l.drop (k+1):=by rw[List.drop_eq_getElem_cons hk,(List.getElem?_eq_some_iff.1 ht).2]
 rw[this];show zj2 now (l.drop (k+1)) (z8g s now t (z2p 0) 0) (n+if z9a s now t=true then 1 else 0)=_;rw[(z9g s now t 0).1,z2l ok now t];rfl
def zyk(g B0:Nat)(sv:Value)(now:Int)(lv:Value)(l:List ByteArray)(s:List Ent)(w:World)(e:Ending)(w':World):Prop:=
 e=.returned (.agg #[.int .i64 3,.string ⟨#[]⟩,.int .i64 ((zj2 now l s 0).2:Nat),.slice none 0 0])∧Fr (g :: z2f sv) w w'∧∃sv',Dr g B0 sv' now lv l (zj2 now l s 0).1 w'
theorem znc(g B0 q:Nat)(sv:Value)(now:Int)(lv:Value)(l:List ByteArray)(s:List Ent)(w:World)(ok:z1y s)(h12:l.length≤11)(h:Dr g B0 sv now lv l s w)(hq:Whole w q 154 [.pointer (some ⟨g,0,none⟩)])(hqs:q∉g :: z2f sv):
  Calls prog 241 #[.pointer (some ⟨g,0,none⟩),.func (Fn.func 242) #[] #[.pointer (some ⟨q,0,none⟩)]] w (zyk g B0 sv now lv l s w):=by
 have hbz:=h.bz;have hlow:∀j∈g :: z2f sv,j < w.heap.size:=fun j hj=>(h.low j hj).2;obtain⟨LA,lc,rfl⟩:=h.lform;have F0:=zF w;obtain⟨x0,x1,x2⟩:=(h.go F0.out).three;have Q0:=zQ w;have B0Q:=hid (hq.alloc (.cells yRza 27));have H0:=hid (h.go F0.out);have HLOW:=hid hlow;have HQS:=hid hqs;have hqz:=hq.lt;have ST:=hid (fun k t (ht:l[k]? = some t) s n (ok:z1y s)=>zps now l k t ht s n ok);have OK:=hid ok;obtain⟨dd,hdd⟩:∃dd,dd=zj2 now l s 0:=⟨_,rfl⟩;unfold zyk;rw[←hdd];have HDD:=hid hdd;clear h hq hqs ok hlow hdd;go_enter Tryz.func241,Tryz.ntmps241;go_wp2;go_loopg [5,13] l.length (fun y n i wr=>∃(k nk:Nat) (sk:Value) (s':List Ent),y=l.length - k∧k≤l.length∧n=.int .i64 nk∧i=.int .i64 k∧nk≤k∧zj2 now (l.drop k) s' nk=dd∧z1y s'∧Dr g B0 sk now (.slice LA l.length lc) l s' wr∧Whole wr w.heap.size 27 [.int .i64 0,.string ⟨#[]⟩,.int .i64 0,.slice none 0 0]∧Whole wr q 154 [.pointer (some ⟨g,0,none⟩)]∧Fr (g :: z2f sv) w wr∧∀j∈z2f sk,j∈z2f sv∨w.heap.size+1≤j)
 case atStart=>exact⟨0,0,sv,s,rfl,Nat.zero_le _,rfl,rfl,Nat.le_refl _,by rw[List.drop_zero];exact HDD.out.symm,OK.out,H0.out,Q0.out,B0Q.out,F0.out.up,fun j hj=>.inl hj⟩
 case round=>
  obtain⟨k,nk,sk,s',rfl,hk,rfl,rfl,hnk,hde,hok,hd,hq,hb,hf,hown⟩:=hrel;have HD:=hid hd;have Q:=hid hq;have BQ:=hid hb;have F:=hid hf;have OWN:=hid hown;have HOK:=hid hok;have HDE:=hid hde;clear hq hf x0 x1 x2 hd hb hown hok hde;by_cases hlt:k < l.length
  ·obtain⟨b,off,rfl,hb,hc,hm,hat⟩:=HD.out.word (by omega);have xw:=hat k hlt;have EK:l[k]? = some (wd l k):=by unfold wd;rw[List.getD_eq_getElem?_getD,List.getElem?_eq_getElem hlt];rfl
   have ST2:=hid (ST.out k _ EK s' nk HOK.out);have DK:=hid (zri g B0 q sk now (.slice (some ⟨b,off,none⟩) l.length lc) l s' (wd l k) _ HOK.out.rise (by have:=HOK.out.le;omega) HD.out BQ.out);have OK2:=hid (zzj HOK.out (wd l k))
   have QN:w.heap.size∉g :: z2f sk:=fun hm=>by
    rcases List.mem_cons.1 hm with e|hm
    ·have:=HLOW.out g (.head _);omega
    ·rcases OWN.out _ hm with h1|h1
     ·have:=HLOW.out _ (.tail _ h1);omega
     ·omega
   have BN:q∉g :: z2f sk:=fun hm=>by
    rcases List.mem_cons.1 hm with e|hm
    ·exact HQS.out (e ▸ .head _)
    ·rcases OWN.out _ hm with h1|h1
     ·exact HQS.out (.tail _ h1)
     ·omega
   have QN:=hid QN;have BN:=hid BN;unfold maxLen at hm;clear hat EK;generalize wd l k=t at *;generalize hlb:z18 s' now t=bb at *;generalize z50 s' t=s2 at *;clear hlb;go_wp2_with fail;refine DK.out.mono ?_;rintro e1 w1 ⟨rfl,f1,sv2,hd2,ho2⟩;have HD2:=hid hd2;have HO2:=hid ho2
   have F1:=hid (F.out.step f1 (fun j hj=>by
    rcases List.mem_cons.1 hj with e|hm
    ·exact .inl (e ▸ .head _)
    ·rcases OWN.out _ hm with h1|h1
     ·exact .inl (.tail _ h1)
     ·exact .inr (by omega)))
   have Q1:=hid (Q.out.fr f1 QN.out);have BQ1:=hid (BQ.out.fr f1 BN.out);have hzz:=Q.out.lt
   have OWN2:=hid (show ∀j∈z2f sv2,j∈z2f sv∨w.heap.size+1≤j from fun j hj=>by
    rcases HO2.out j hj with h1|h1
    ·exact OWN.out j h1
    ·exact .inr (by omega))
   clear f1 xw hd2 ho2;rcases bb with _|_
   all_goals
    go_wp2;go_roundg (l.length - (k+1))
    case measure=>omega
    case rel=>first
     | exact⟨k+1,nk,sv2,s2,rfl,by omega,rfl,by go_num,by omega,by rw[←HDE.out,ST2.out];rfl,OK2.out,HD2.out,Q1.out,BQ1.out,F1.out,OWN2.out⟩
     | exact⟨k+1,nk+1,sv2,s2,rfl,by omega,by go_num,by go_num,by omega,by rw[←HDE.out,ST2.out];rfl,OK2.out,HD2.out,Q1.out,BQ1.out,F1.out,OWN2.out⟩
  ·obtain rfl:k=l.length:=by omega
   have ED:dd=(s',nk):=by
    rw[←HDE.out,List.drop_length];rfl
   go_wp2_with fail;refine(z0m _ _).mono ?_;rintro e1 w1 ⟨rfl,f1⟩;have F1:=hid (F.out.trans f1.up);have Q1:=hid (Q.out.f0 f1);have HD1:=hid (HD.out.go f1);clear f1;obtain⟨y0,y1,y2,y3⟩:=four Q1.out;obtain⟨z0,z1,z2,z3⟩:=z0h Q1.out;go_wp2;refine bodyPost_ret (v:=.agg #[.int .i64 3,.string ⟨#[]⟩,.int .i64 nk,.slice none 0 0]) (by simp[results,Tryz.results241,go_sem,y0,y1,y2,y3]) rfl ?_;rw[ED];exact⟨rfl,z0g F1.out (Nat.le_refl _) _ _ _ _,sk,HD1.out.set4W Q1.out (by have:=HLOW.out g (.head _);omega) _ _ _ _⟩
theorem q0l(ok:z1y s)(hn:1≤l.length)(h12:l.length≤11)(hz:∀t∈l,t.size≤60)(h:Dr g B0 sv now lv l s w):
  Calls prog 183 #[.pointer (some ⟨g,0,none⟩),.string ⟨#[100,101,108]⟩] w (ChD g B0 B0 sv now lv l (doC .del s now (c0 :: l)) w):=by
 have hr:=ok.rise;have hs16:=ok.le;have EP:doC .del s now (c0 :: l)=((zj2 now l s 0).1,z0o ((zj2 now l s 0).2:Nat)):=rfl;have DT:=hid (fun W (hd:Dr g B0 sv now lv l s W) (hq:Whole W w.heap.size 154 [.pointer (some ⟨g,0,none⟩)])=>znc g B0 w.heap.size sv now lv l s W ok h12 hd hq (fun hm=>by have:=(h.low _ hm).2;omega));rw[EP];clear EP;unfold zyk at DT;generalize zj2 now l s 0=dd at *;have LK:=hid (fun W (hW:Fr [] w W)=>z1g s sv now (wd l 0) W B0 hr (by omega) (h.e.fr hW));have H:=hid h;have hlt:=h.lt;have hbz:=h.bz;obtain⟨SA,sc,rfl⟩:=h.sform;obtain⟨LA,lc,rfl⟩:=h.lform;obtain⟨b,off,rfl,hb,hc,hm,hat⟩:=h.word (by omega);have HAT:=hid hat;have DG:=hid (fun W (hW:Fr [] w W)=>(h.go hW).three);unfold maxLen at hm;clear h hr hat ok;generalize z00 s now (wd l 0)=y at *;generalize z18 s now (wd l 0)=bb at *;have ix0:(0:Int) < (l.length:Int):=by omega
 have F0:=zF2 w g;have P0:=zP0 w g;have Q0:=zQ0 w g;have F1:=zF3 F0;have V1:=zV1 w g;have hn1:¬g=w.heap.size+1+1:=by omega
 have hn2:¬w.heap.size+1+1=g:=by omega
 have hn3:¬b=w.heap.size+1+1:=by omega
 have hn4:¬w.heap.size+1+1=b:=by omega
 have hn5:¬w.heap.size=w.heap.size+1+1:=by omega
 have hn6:¬w.heap.size+1+1=w.heap.size:=by omega
 have ix0n:0 < l.length:=by omega
 have p0:=P0.out.cell 0;have p1:=(zP1 P0).cell 0;obtain⟨d0,d1,d2⟩:=DG.out _ F0.out;obtain⟨d3,d4,d5⟩:=DG.out _ F1.out;have d6:=F0.out.cell (HAT.out 0 (by omega)) (by simp);have d7:=F1.out.cell (HAT.out 0 (by omega)) (by simp);rw[Nat.add_zero] at d6 d7;go_enter Tryz.func183,Tryz.ntmps183;go_upto_region 1 with fail;go_cut [5,6] (fun pb po wx=>po=.bool bb∧z89 B0 y ((w.alloc (.cells #[.pointer (some ⟨g,0,none⟩)] 154)).alloc (.cells yRza 27)) pb wx)
 case first=>
  go_region_held3 (fun wx=>wx.cell? ⟨w.heap.size,0,none⟩=some (.pointer (some ⟨g,0,none⟩))∧wx.cell? ⟨g,0,none⟩=some (.slice SA s.length sc)∧wx.cell? ⟨g,1,none⟩=some (.int .i64 now)∧wx.cell? ⟨g,2,none⟩=some (.slice (some ⟨b,off,none⟩) l.length lc)∧wx.cell? ⟨b,off,none⟩=some (.string (wd l 0))) (go_keep) ((go_at_call 162;first|(refine(LK.out _ F0.out.drew).mono ?_;rintro e1 w1 ⟨A1,c1,A2,c2,A3,c3,rfl,hc,f1⟩;have F2:=hid (z01 f1);have F3:=hid (F0.out.trans F2.out);have HC:=hid hc;obtain⟨z0,z1,z2⟩:=DG.out _ F3.out;have z3:=F3.out.cell (HAT.out 0 (by omega)) (by simp);rw[Nat.add_zero] at z3;have z4:=(P0.out.f0 F2.out).cell 0;clear f1 hc)|(refine(LK.out _ F1.out.drew).mono ?_;rintro e1 w1 ⟨A1,c1,A2,c2,A3,c3,rfl,hc,f1⟩;have F2:=hid (z2b (z01 f1));have F3:=hid (F1.out.trans (z01 f1));have HC:=hid hc;have V2:=hid (V1.out.f0 (z01 f1));obtain⟨z0,z1,z2⟩:=DG.out _ F3.out;have z3:=F3.out.cell (HAT.out 0 (by omega)) (by simp);rw[Nat.add_zero] at z3;have z4:=((P0.out.alloc (.cells yEza 81)).f0 (z01 f1)).cell 0;have y7:=seven V2.out;have z7:=z3u V2.out;clear f1 hc)))
  all_goals
   go_wp2;go_meet
   case rel=>first|with_reducible exact⟨rfl,z89.new HC.out F2.out⟩|exact⟨rfl,z89.put HC.out F2.out (by simp) V2.out⟩
 clear d0 d1 d2 d3 d4 d5 d6 d7 p0 p1;obtain⟨rfl,gb,A1,c1,A2,c2,A3,c3,rfl,hgb,hw,hc,hf⟩:=hcut;have HC:=hid hc;have hgb2:w.heap.size+1 < gb:=by simp at hgb;omega
 have KW:=zKW H P0 Q0 F0 hf hw hgb2;clear hf hw hc hgb hn1 hn2 hn3 hn4 hn5 hn6;have p0:=(KW.out.bl _ (.head _)).cell 0;go_wp2_with fail;refine(DT.out _ KW.out.d (KW.out.bl _ (.head _))).mono ?_;rintro e8 w8 ⟨rfl,f8,sv8,hd8⟩;have WB8:=hid (KW.out.keep H.out f8);have F8:=hid (KW.out.f.up.trans f8);have HD8:=hid hd8;clear f8 hd8 p0;obtain⟨ds,dn⟩:=dd;obtain⟨y0,y1,y2,y3⟩:=four (WB8.out _ (.tail _ (.head _)));obtain⟨z0,z1,z2,z3⟩:=z0h (WB8.out _ (.tail _ (.head _)));go_wp2;refine bodyPost_ret (v:=.agg #[.int .i64 3,.string ⟨#[]⟩,.int .i64 (dn:Int),.slice none 0 0]) (by simp[results,Tryz.results183,go_sem,y0,y1,y2,y3]) rfl ?_;exact ChD.fin4o (r:=z0o (dn:Int)) (Nat.le_succ _) (z19.bare _ _ _ _ _) F8.out (WB8.out _ (.tail _ (.head _))) hbz (fun _=>⟨_,HD8.out⟩)
end
theorem z2c{s:Shp}:∀(l:List ByteArray) (i:Nat),z66 s i l=true→∀k,k < l.length→s.num (i+k)=true→(z2z (wd l k).data.toList).isSome=true
 | [],i,_,k,hk,_=>by simp at hk
 | w :: l,i,h,k,hk,hn=>by
  unfold z66 at h;rw[Bool.and_eq_true] at h;cases k with
  | zero=>
   rw[Nat.add_zero] at hn;have:=h.1;rw[hn] at this;simpa[isN,wd] using this
  | succ k=>
   have:=z2c l (i+1) h.2 k (by simpa using hk) (by rwa[show i+1+k=i+(k+1) from by omega]);simpa[wd] using this
theorem z0c{s:Shp}{n:Nat}(h:s.bad n=false):s.least≤n:=by
 unfold Shp.bad at h;rw[Bool.or_eq_false_iff,Bool.or_eq_false_iff] at h;have:=of_decide_eq_false h.1.1;omega
theorem ziv{s:Shp}{n:Nat}(h:s.bad n=false)(hp:s.pairs=true):n % 2=1:=by
 unfold Shp.bad at h;rw[Bool.or_eq_false_iff,hp,Bool.true_and] at h;have:=of_decide_eq_false h.2;omega
structure zwc(c:Cm)(l:List ByteArray):Prop where
 le:l.length≤11
 sz:∀t∈l,t.size≤60
 ok:c.shp.bad l.length=false
 nums:z66 c.shp 0 l=true
theorem z92{l:List ByteArray}(h:z1v l=0):∃c0 l' c,l=c0 :: l'∧zwv c0=c.bs∧cmL l=some c∧zwc c l':=by
 unfold z1v at h;split at h
 ·exact absurd h (by assumption)
 ·rename_i hw;obtain⟨h1,h2,h3⟩:=z3m (by simpa using hw);rcases l with _|⟨c0,l'⟩
  ·simp at h1
  ·split at h
   ·cases h
   ·rename_i c hc;split at h
    ·cases h
    ·rename_i hb;split at h
     ·rename_i hn;refine⟨c0,l',c,rfl,z9k hc,hc,⟨by simp at h2;omega,fun t ht=>h3 t (.tail _ ht),?_,hn⟩⟩;have:(c0 :: l').length - 1=l'.length:=by simp
      rw[this] at hb;simpa using hb
     ·cases h
theorem zww(g B0:Nat)(sv:Value)(now:Int)(lv:Value)(l:List ByteArray)(s:List Ent)(c0:ByteArray)(c:Cm)(w:World)(hk:zwc c l)(ok:z1y s)(h0:0≤now∧now≤1000000)(hv:Vars w)(h:Dr g B0 sv now lv l s w):
  Calls prog 120 #[.pointer (some ⟨g,0,none⟩),.string (toB c.bs)] w (ChD g B0 B0 sv now lv l (doC c s now (c0 :: l)) w):=by
 have hb:=hk.ok;have hn:=hk.nums;cases c
 case ping=>exact zx7 g B0 sv now lv l s c0 w h
 case get=>
  have hl:1≤l.length:=z0c hb;exact z55 g B0 sv now lv l s _ ⟨#[103,101,116]⟩ (.inl rfl) w (z0k _ _ _ _) h (fun W hF hd=>zzs g B0 sv now lv l s c0 W ok hl hk.le hk.sz hd)
 case set_=>
  have hl:2≤l.length:=z0c hb;exact z55 g B0 sv now lv l s _ ⟨#[115,101,116]⟩ (.inr (.inl rfl)) w (z0k _ _ _ _) h (fun W hF hd=>zy0 g B0 sv now lv l s c0 W ok hl hk.le hk.sz hd)
 case append_=>
  have hl:2≤l.length:=z0c hb;exact z55 g B0 sv now lv l s _ ⟨#[97,112,112,101,110,100]⟩ (.inr (.inr (.inl rfl))) w (z0k _ _ _ _) h (fun W hF hd=>zog g B0 sv now lv l s c0 W ok hl hk.le hk.sz hd)
 case strlen=>
  have hl:1≤l.length:=z0c hb;exact z55 g B0 sv now lv l s _ ⟨#[115,116,114,108,101,110]⟩ (.inr (.inr (.inr (.inl rfl)))) w (z0k _ _ _ _) h (fun W hF hd=>zpq g B0 sv now lv l s c0 W ok hl hk.le hk.sz hd)
 case incrby=>
  have hl:2≤l.length:=z0c hb;obtain⟨n1,h1⟩:=Option.isSome_iff_exists.1 (z2c l 0 hn 1 (by omega) rfl);exact z55 g B0 sv now lv l s _ ⟨#[105,110,99,114,98,121]⟩ (.inr (.inr (.inr (.inr (.inl rfl))))) w (z0k _ _ _ _) h (fun W hF hd=>zpv g B0 sv now lv l s c0 W ok hl hk.le hk.sz n1 h1 (hv.fr hF) hd)
 case getrange=>
  have hl:3≤l.length:=z0c hb;obtain⟨n1,h1⟩:=Option.isSome_iff_exists.1 (z2c l 0 hn 1 (by omega) rfl);obtain⟨n2,h2⟩:=Option.isSome_iff_exists.1 (z2c l 0 hn 2 (by omega) rfl);exact z55 g B0 sv now lv l s _ ⟨#[103,101,116,114,97,110,103,101]⟩ (.inr (.inr (.inr (.inr (.inr (rfl)))))) w (z0k _ _ _ _) h (fun W hF hd=>zjm g B0 sv now lv l s c0 W ok hl hk.le hk.sz n1 h1 n2 h2 (hv.fr hF) hd)
 case del=>
  have hl:1≤l.length:=z0c hb;exact z5i g B0 sv now lv l s _ ⟨#[100,101,108]⟩ (.inl rfl) w (z0k _ _ _ _) h (fun W hF hd=>q0l g B0 sv now lv l s c0 W ok hl hk.le hk.sz hd)
 case exists_=>
  have hl:1≤l.length:=z0c hb;exact z5i g B0 sv now lv l s _ ⟨#[101,120,105,115,116,115]⟩ (.inr (.inl rfl)) w (z0k _ _ _ _) h (fun W hF hd=>zoj g B0 sv now lv l s c0 W ok hl hk.le hk.sz hd)
 case type_=>
  have hl:1≤l.length:=z0c hb;exact z5i g B0 sv now lv l s _ ⟨#[116,121,112,101]⟩ (.inr (.inr (.inl rfl))) w (z0k _ _ _ _) h (fun W hF hd=>zt9 g B0 sv now lv l s c0 W ok hl hk.le hk.sz hd)
 case keys_=>
  have hl:1≤l.length:=z0c hb;exact z5i g B0 sv now lv l s _ ⟨#[107,101,121,115]⟩ (.inr (.inr (.inr (.inl rfl)))) w (z0k _ _ _ _) h (fun W hF hd=>zuf g B0 sv now lv l s c0 W ok hl hk.le hk.sz h0 hd)
 case expire=>
  have hl:2≤l.length:=z0c hb;obtain⟨n1,h1⟩:=Option.isSome_iff_exists.1 (z2c l 0 hn 1 (by omega) rfl);exact z5i g B0 sv now lv l s _ ⟨#[101,120,112,105,114,101]⟩ (.inr (.inr (.inr (.inr (.inl rfl))))) w (z0k _ _ _ _) h (fun W hF hd=>zql g B0 sv now lv l s c0 W ok hl hk.le hk.sz n1 h1 (hv.fr hF) h0 hd)
 case ttl=>
  have hl:1≤l.length:=z0c hb;exact z5i g B0 sv now lv l s _ ⟨#[116,116,108]⟩ (.inr (.inr (.inr (.inr (.inr (.inl rfl)))))) w (z0k _ _ _ _) h (fun W hF hd=>zzq g B0 sv now lv l s c0 W ok hl hk.le hk.sz h0 hd)
 case persist=>
  have hl:1≤l.length:=z0c hb;exact z5i g B0 sv now lv l s _ ⟨#[112,101,114,115,105,115,116]⟩ (.inr (.inr (.inr (.inr (.inr (.inr (rfl))))))) w (z0k _ _ _ _) h (fun W hF hd=>zmz g B0 sv now lv l s c0 W ok hl hk.le hk.sz hd)
 case lpush=>
  have hl:2≤l.length:=z0c hb;exact z47 g B0 sv now lv l s _ ⟨#[108,112,117,115,104]⟩ (.inl rfl) w (z0k _ _ _ _) h (fun W hF hd=>zmk true _ (.inl ⟨rfl,rfl⟩) g B0 sv now lv l s c0 W ok hl hk.le hk.sz hd)
 case rpush=>
  have hl:2≤l.length:=z0c hb;exact z47 g B0 sv now lv l s _ ⟨#[114,112,117,115,104]⟩ (.inr (.inl rfl)) w (z0k _ _ _ _) h (fun W hF hd=>zmk false _ (.inr ⟨rfl,rfl⟩) g B0 sv now lv l s c0 W ok hl hk.le hk.sz hd)
 case lpop=>
  have hl:1≤l.length:=z0c hb;exact z47 g B0 sv now lv l s _ ⟨#[108,112,111,112]⟩ (.inr (.inr (.inl rfl))) w (z0k _ _ _ _) h (fun W hF hd=>zsh true _ (.inl ⟨rfl,rfl⟩) g B0 sv now lv l s c0 W ok hl hk.le hk.sz hd)
 case rpop=>
  have hl:1≤l.length:=z0c hb;exact z47 g B0 sv now lv l s _ ⟨#[114,112,111,112]⟩ (.inr (.inr (.inr (.inl rfl)))) w (z0k _ _ _ _) h (fun W hF hd=>zsh false _ (.inr ⟨rfl,rfl⟩) g B0 sv now lv l s c0 W ok hl hk.le hk.sz hd)
 case lrange=>
  have hl:3≤l.length:=z0c hb;obtain⟨n1,h1⟩:=Option.isSome_iff_exists.1 (z2c l 0 hn 1 (by omega) rfl);obtain⟨n2,h2⟩:=Option.isSome_iff_exists.1 (z2c l 0 hn 2 (by omega) rfl);exact z47 g B0 sv now lv l s _ ⟨#[108,114,97,110,103,101]⟩ (.inr (.inr (.inr (.inr (.inl rfl))))) w (z0k _ _ _ _) h (fun W hF hd=>zqy g B0 sv now lv l s c0 W ok hl hk.le hk.sz n1 h1 n2 h2 (hv.fr hF) hd)
 case ltrim=>
  have hl:3≤l.length:=z0c hb;obtain⟨n1,h1⟩:=Option.isSome_iff_exists.1 (z2c l 0 hn 1 (by omega) rfl);obtain⟨n2,h2⟩:=Option.isSome_iff_exists.1 (z2c l 0 hn 2 (by omega) rfl);exact z47 g B0 sv now lv l s _ ⟨#[108,116,114,105,109]⟩ (.inr (.inr (.inr (.inr (.inr (.inl rfl)))))) w (z0k _ _ _ _) h (fun W hF hd=>zu4 g B0 sv now lv l s c0 W ok hl hk.le hk.sz n1 h1 n2 h2 (hv.fr hF) hd)
 case lrem=>
  have hl:2≤l.length:=z0c hb;exact z47 g B0 sv now lv l s _ ⟨#[108,114,101,109]⟩ (.inr (.inr (.inr (.inr (.inr (.inr (rfl))))))) w (z0k _ _ _ _) h (fun W hF hd=>zwy g B0 sv now lv l s c0 W ok hl hk.le hk.sz hd)
 case sadd=>
  have hl:2≤l.length:=z0c hb;exact z5f g B0 sv now lv l s _ ⟨#[115,97,100,100]⟩ (.inl rfl) w (z0k _ _ _ _) h (fun W hF hd=>zyl g B0 sv now lv l s c0 W ok hl hk.le hk.sz hd)
 case srem=>
  have hl:2≤l.length:=z0c hb;exact z5f g B0 sv now lv l s _ ⟨#[115,114,101,109]⟩ (.inr (.inl rfl)) w (z0k _ _ _ _) h (fun W hF hd=>zxg g B0 sv now lv l s c0 W ok hl hk.le hk.sz hd)
 case sismember=>
  have hl:2≤l.length:=z0c hb;exact z5f g B0 sv now lv l s _ ⟨#[115,105,115,109,101,109,98,101,114]⟩ (.inr (.inr (.inl rfl))) w (z0k _ _ _ _) h (fun W hF hd=>zh7 g B0 sv now lv l s c0 W ok hl hk.le hk.sz hd)
 case smembers=>
  have hl:1≤l.length:=z0c hb;exact z5f g B0 sv now lv l s _ ⟨#[115,109,101,109,98,101,114,115]⟩ (.inr (.inr (.inr (.inl rfl)))) w (z0k _ _ _ _) h (fun W hF hd=>zl0 g B0 sv now lv l s c0 W ok hl hk.le hk.sz hd)
 case sinter=>
  have hl:1≤l.length:=z0c hb;exact z5f g B0 sv now lv l s _ ⟨#[115,105,110,116,101,114]⟩ (.inr (.inr (.inr (.inr (.inl rfl))))) w (z0k _ _ _ _) h (fun W hF hd=>zrn g B0 sv now lv l s c0 W ok hl hk.le hk.sz hd)
 case sunion=>
  have hl:1≤l.length:=z0c hb;exact z5f g B0 sv now lv l s _ ⟨#[115,117,110,105,111,110]⟩ (.inr (.inr (.inr (.inr (.inr (.inl rfl)))))) w (z0k _ _ _ _) h (fun W hF hd=>zss g B0 sv now lv l s c0 W ok hl hk.le hk.sz hd)
 case sdiff=>
  have hl:1≤l.length:=z0c hb;exact z5f g B0 sv now lv l s _ ⟨#[115,100,105,102,102]⟩ (.inr (.inr (.inr (.inr (.inr (.inr (rfl))))))) w (z0k _ _ _ _) h (fun W hF hd=>zvc g B0 sv now lv l s c0 W ok hl hk.le hk.sz hd)
 case hset=>
  have hl:3≤l.length:=z0c hb;have hmm:l.length=2 * (l.length / 2)+1:=by have:=ziv hb rfl;omega
  exact z6r g B0 sv now lv l s _ ⟨#[104,115,101,116]⟩ (.inl rfl) w (z0k _ _ _ _) h (fun W hF hd=>zxp g B0 sv now lv l s c0 W ok hl hk.le hk.sz (l.length / 2) hmm hd)
 case hget=>
  have hl:2≤l.length:=z0c hb;exact z6r g B0 sv now lv l s _ ⟨#[104,103,101,116]⟩ (.inr (.inl rfl)) w (z0k _ _ _ _) h (fun W hF hd=>zyx g B0 sv now lv l s c0 W ok hl hk.le hk.sz hd)
 case hdel=>
  have hl:2≤l.length:=z0c hb;exact z6r g B0 sv now lv l s _ ⟨#[104,100,101,108]⟩ (.inr (.inr (.inl rfl))) w (z0k _ _ _ _) h (fun W hF hd=>zyo g B0 sv now lv l s c0 W ok hl hk.le hk.sz hd)
 case hgetall=>
  have hl:1≤l.length:=z0c hb;exact z6r g B0 sv now lv l s _ ⟨#[104,103,101,116,97,108,108]⟩ (.inr (.inr (.inr (rfl)))) w (z0k _ _ _ _) h (fun W hF hd=>zol g B0 sv now lv l s c0 W ok hl hk.le hk.sz hd)
 case zadd=>
  have hl:3≤l.length:=z0c hb;have hmm:l.length=2 * (l.length / 2)+1:=by have:=ziv hb rfl;omega
  have hnum:∀k,2 * k+2 < l.length→(z2z (wd l (2 * k+1)).data.toList).isSome=true:=fun k hk2=>z2c l 0 hn (2 * k+1) (by omega) (by show decide ((0+(2 * k+1)) % 2=1)=true;rw[decide_eq_true (by omega)]);exact z41 g B0 sv now lv l s _ ⟨#[122,97,100,100]⟩ (.inl rfl) w (z0k _ _ _ _) h (fun W hF hd=>zxk g B0 sv now lv l s c0 W ok hl hk.le hk.sz (l.length / 2) hmm hnum (hv.fr hF) hd)
 case zrem=>
  have hl:2≤l.length:=z0c hb;exact z41 g B0 sv now lv l s _ ⟨#[122,114,101,109]⟩ (.inr (.inl rfl)) w (z0k _ _ _ _) h (fun W hF hd=>zy3 g B0 sv now lv l s c0 W ok hl hk.le hk.sz hd)
 case zscore=>
  have hl:2≤l.length:=z0c hb;exact z41 g B0 sv now lv l s _ ⟨#[122,115,99,111,114,101]⟩ (.inr (.inr (.inl rfl))) w (z0k _ _ _ _) h (fun W hF hd=>zpw g B0 sv now lv l s c0 W ok hl hk.le hk.sz hd)
 case zrank=>
  have hl:2≤l.length:=z0c hb;exact z41 g B0 sv now lv l s _ ⟨#[122,114,97,110,107]⟩ (.inr (.inr (.inr (.inl rfl)))) w (z0k _ _ _ _) h (fun W hF hd=>zuc g B0 sv now lv l s c0 W ok hl hk.le hk.sz hd)
 case zrange=>
  have hl:3≤l.length:=z0c hb;obtain⟨n1,h1⟩:=Option.isSome_iff_exists.1 (z2c l 0 hn 1 (by omega) rfl);obtain⟨n2,h2⟩:=Option.isSome_iff_exists.1 (z2c l 0 hn 2 (by omega) rfl);exact z41 g B0 sv now lv l s _ ⟨#[122,114,97,110,103,101]⟩ (.inr (.inr (.inr (.inr (.inl rfl))))) w (z0k _ _ _ _) h (fun W hF hd=>zs7 g B0 sv now lv l s c0 W ok hl hk.le hk.sz n1 h1 n2 h2 (hv.fr hF) hd)
 case zrangebyscore=>
  have hl:3≤l.length:=z0c hb;obtain⟨n1,h1⟩:=Option.isSome_iff_exists.1 (z2c l 0 hn 1 (by omega) rfl);obtain⟨n2,h2⟩:=Option.isSome_iff_exists.1 (z2c l 0 hn 2 (by omega) rfl);exact z41 g B0 sv now lv l s _ ⟨#[122,114,97,110,103,101,98,121,115,99,111,114,101]⟩ (.inr (.inr (.inr (.inr (.inr (rfl)))))) w (z0k _ _ _ _) h (fun W hF hd=>zbz g B0 sv now lv l s c0 W ok hl hk.le hk.sz n1 h1 n2 h2 (hv.fr hF) hd)
theorem zl8{s:Shp}{k:Nat}{l:List ByteArray}{t:ByteArray}(h:l[k]? = some t):z66 s k (l.drop k)=((!s.num k||isN t)&&z66 s (k+1) (l.drop (k+1))):=by
 have hk:=(List.getElem?_eq_some_iff.1 h).1;rw[List.drop_eq_getElem_cons hk,(List.getElem?_eq_some_iff.1 h).2];rfl
theorem zk9{l:List ByteArray}(h:z0x l≠0):z1v l=z0x l:=if_pos h
theorem zo1{l:List ByteArray}(h:z0x l=0)(hc:cmL l=none):z1v l=5:=by
 unfold z1v;rw[if_neg (by simpa using h),hc]
theorem zo4{l:List ByteArray}{c:Cm}(h:z0x l=0)(hc:cmL l=some c):z1v l=if c.shp.bad (l.length - 1)=true then 1 else if z66 c.shp 0 (l.drop 1)=true then 0 else 3:=by
 unfold z1v;rw[if_neg (by simpa using h),hc]
def KnP(l:List ByteArray)(w:World)(e:Ending)(w':World):Prop:=e=.returned (.int .i64 (z1v l))∧Fr [] w w'
theorem zo2(l:List ByteArray)(A:Option Addr)(c B:Nat)(w:World)(hw:z0x l≠0)(hl:l.length≤281474976710656)(hB:B≤w.heap.size)(h:Sl w B 1 (.slice A l.length c) l.length (z04 l)):
  Calls prog 14 #[.slice A l.length c] w (KnP l w):=by
 have CK:=hid (z6h l A c B w hl hB h);unfold KnP;rw[zk9 hw];have q1:(z0x l != 0)=true:=by simpa using hw
 clear h hw;generalize z0x l=code at *;go_enter Tryz.func14,Tryz.ntmps14;go_wp2_with fail;refine CK.out.mono ?_;rintro e1 w1 ⟨rfl,f1⟩;go_wp2;go_ret;exact⟨rfl,f1⟩
theorem zoi(l:List ByteArray)(A:Option Addr)(c B:Nat)(w:World)(hw:z0x l=0)(hc:cmL l=none)(hB:B≤w.heap.size)(h:Sl w B 1 (.slice A l.length c) l.length (z04 l)):
  Calls prog 14 #[.slice A l.length c] w (KnP l w):=by
 obtain⟨h1,h2,h3⟩:=z3m hw;have CK:=hid (z6h l A c B w (by omega) hB h);unfold KnP;rw[zo1 hw hc];rw[hw] at CK;rcases l with _|⟨c0,l'⟩
 ·simp at h1
 obtain⟨b,off,rfl,hb,hcc,hm,hat⟩:=h.at_ (by simp);have x0:=hat 0 _ rfl;rw[Nat.add_zero] at x0;have LW:=hid (fun W=>za7 c0 W (by have:=h3 c0 (.head _);omega));have OF:=hid (fun W=>zxh (toB (zwv c0)) W (fun cc=>by rw[z30];exact zpy hc cc));have ix0:(0:Int) < ((c0 :: l').length:Int):=by simp
 have hbw:b < w.heap.size:=by omega
 clear h hw hat h1 h2 h3 hc;generalize (c0 :: l').length=n at *;generalize toB (zwv c0)=tl at *;go_enter Tryz.func14,Tryz.ntmps14;go_wp2_with fail;refine CK.out.mono ?_;rintro e1 w1 ⟨rfl,f1⟩;have x1:=f1.cell x0 (by simp);have F1:=hid f1;clear f1 x0;go_wp2_with fail;refine(LW.out _).mono ?_;rintro e2 w2 ⟨rfl,f2⟩;have F2:=hid (F1.out.trans f2);clear f2 x1;go_wp2_with fail;refine(OF.out _).mono ?_;rintro e3 w3 ⟨rfl,f3⟩;have F3:=hid (F2.out.trans f3);clear f3;go_wp2;go_ret;exact⟨rfl,F3.out.alloc _⟩
theorem zmx(l:List ByteArray)(A:Option Addr)(c B:Nat)(cm:Cm)(w:World)(hw:z0x l=0)(hc:cmL l=some cm)(hv:Vars w)(hB:B≤w.heap.size)(h:Sl w B 1 (.slice A l.length c) l.length (z04 l)):
  Calls prog 14 #[.slice A l.length c] w (KnP l w):=by
 obtain⟨h1,h2,h3⟩:=z3m hw;have CK:=hid (z6h l A c B w (by omega) hB h);unfold KnP;have EK:=hid (zo4 hw hc);rw[hw] at CK;rcases l with _|⟨c0,l'⟩
 ·simp at h1
 obtain⟨b,off,rfl,hb,hcc,hm,hat⟩:=h.at_ (by simp);have x0:=hat 0 _ rfl;rw[Nat.add_zero] at x0
 have HAT:=hid (fun k t (hk:l'[k]? = some t)=>show w.cell? ⟨b,off+1+k,none⟩=some (.string t) from by
  have:=hat (k+1) (.string t) (by unfold z04;rw[List.map_cons,List.getElem?_cons_succ,List.getElem?_map,hk];rfl);rwa[show off+(k+1)=off+1+k from by omega] at this)
 have LW:=hid (fun W=>za7 c0 W (by have:=h3 c0 (.head _);omega));have OF:=hid (fun W=>zyw cm W);have EL:zwv c0=cm.bs:=z9k hc;rw[EL] at LW;have TI:=hid (fun W t (ht:t∈l') (hV:Vars W)=>z8s t W hV (by have:=h3 t (.tail _ ht);omega));have HV:=hid hv;obtain⟨n,hn⟩:∃n,n=l'.length:=⟨_,rfl⟩;have hlen:(c0 :: l').length=n+1:=by simp[hn]
 have h12:n≤11:=by omega
 have HN:=hid hn;rw[hlen] at CK hcc EK;rw[hlen];have E1:n+1 - 1=n:=by omega
 rw[E1] at EK;have ED:(c0 :: l').drop 1=l':=rfl;rw[ED] at EK;generalize hkn:z1v (c0 :: l')=kn at *;have ix0:(0:Int) < ((n+1:Nat):Int):=by omega
 have hbw:b < w.heap.size:=by omega
 obtain⟨sh,hsh⟩:∃sh,sh=cm.shp:=⟨_,rfl⟩;rw[←hsh] at EK OF;unfold shpV at OF;have NM:=hid (fun i hi W=>zr9 sh i hi W);unfold shpV at NM;have hst:=hid (fun k t (hk:l'[k]? = some t)=>zl8 (s:=sh) hk);clear h hw hat h1 h2 h3 hc hsh hv hn hkn hlen E1 ED EL;unfold maxLen at hm;generalize toB cm.bs=tl at *;generalize hL:(sh.least:Int)=L at *;generalize hM:znu sh.most=M at *;generalize hP:sh.pairs=P at *;generalize zg7 sh.nums=NS at *
 have QB:=hid (show sh.bad n=(decide ((n:Int) < L)||(decide (0≤M)&&decide (M < (n:Int)))||(P&&decide (n % 2=0))) from by
  unfold Shp.bad;rw[hP,←hL,←hM];rcases sh.most with _|m
  ·simp[znu]
  ·simp[znu])
 clear hL hM hP;go_enter Tryz.func14,Tryz.ntmps14;go_wp2_with fail;refine CK.out.mono ?_;rintro e1 w1 ⟨rfl,f1⟩;have x1:=f1.cell x0 (by simp);have F1:=hid f1;clear f1 x0;go_wp2_with fail;refine(LW.out _).mono ?_;rintro e2 w2 ⟨rfl,f2⟩;have F2:=hid (F1.out.trans f2);clear f2 x1;go_wp2_with fail;refine(OF.out _).mono ?_;rintro e3 w3 ⟨rfl,f3⟩;have F3:=hid ((F2.out.trans f3).alloc (.cells #[.int .i64 L,.int .i64 M,.bool P,.string NS] 120));have W3:=hid (Whole.new w3 120 [.int .i64 L,.int .i64 M,.bool P,.string NS]);have hzz:=Nat.le_trans F2.out.size f3.size;clear f3
 have hpar:((n:Int) % 2==0)=decide (n % 2=0):=by
  rw[Bool.eq_iff_iff];simp;omega
 go_upto_region 8 with fail;go_cut [30] (fun sb wx=>sb=.bool (sh.bad n)∧wx=w3.alloc (.cells #[.int .i64 L,.int .i64 M,.bool P,.string NS] 120))
 case first=>
  rcases P with _|_
  all_goals
   obtain⟨y0,y1,y2,y3⟩:=four W3.out;go_wp2
  all_goals
   go_meet
   case rel=>
    refine⟨?_,rfl⟩;rw[QB.out];clear QB EK NM OF F3 W3 LW hst TI HAT
    try rw[decide_eq_false (show ¬0≤M by omega)]
    simp[*]
    try omega
 case rest=>
  obtain⟨rfl,rfl⟩:=hcut;generalize sh.bad n=bd at *;rcases bd with _|_
  ·have HE:=hid (show kn=if z66 sh 0 l'=true then 0 else 3 from by rw[EK.out];rfl);clear EK QB hpar OF CK LW;by_cases hc1:c=1
   ·have hn0:n=0:=by omega
    subst hn0;subst hc1;have hl0:l'=[]:=List.length_eq_zero_iff.1 HN.out.symm;have hk0:kn=0:=by rw[HE.out,hl0];rfl
    clear HE hl0;subst hk0;go_wp2;go_loopg [58] 0 (fun y i wr=>y=0∧i=.int .i64 0∧wr=w3.alloc (.cells #[.int .i64 L,.int .i64 M,.bool P,.string NS] 120))
    case atStart=>exact⟨rfl,rfl,rfl⟩
    case round=>
     obtain⟨rfl,rfl,rfl⟩:=hrel;go_wp2;go_ret;exact⟨rfl,F3.out⟩
   ·have sx3:¬(c:Int)=1:=by omega
    go_wp2;go_loopg [58] n (fun y i wr=>∃k:Nat,y=n - k∧k≤n∧i=.int .i64 k∧z66 sh 0 l'=z66 sh k (l'.drop k)∧Whole wr w3.heap.size 120 [.int .i64 L,.int .i64 M,.bool P,.string NS]∧Fr [] w wr)
    case atStart=>exact⟨0,rfl,Nat.zero_le _,rfl,by rw[List.drop_zero],W3.out,F3.out⟩
    case round=>
     obtain⟨k,rfl,hk,rfl,he,hq,hf⟩:=hrel;have EQ:=hid he;have Q:=hid hq;have F:=hid hf;clear he hq hf;by_cases hlt:k < n
     ·have hk2:k < l'.length:=by rw[←HN.out];exact hlt
      have EK:l'[k]? = some l'[k]:=List.getElem?_eq_getElem hk2;have xw:=F.out.cell (HAT.out k _ EK) (by simp);have ST:=hid (hst.out k _ EK);have TK:=hid (fun W hV=>TI.out W l'[k] (List.getElem_mem hk2) hV);have NK:=hid (fun W=>NM.out k (by omega) W);unfold isN at ST;unfold zja at TK;clear EK hst TI NM HAT;generalize l'[k]=t at *;have k1:k < n - 0:=hlt;go_wp2_with fail;refine(TK.out _ (HV.out.fr F.out)).mono ?_;rintro e1 w4 ⟨v,rfl,-,-,f4⟩;have F4:=hid (F.out.trans f4);have Q4:=hid (Q.out.f0 f4);clear f4 xw TK;generalize (z2z t.data.toList).isSome=ib at *;obtain⟨y0,y1,y2,y3⟩:=four Q4.out;go_wp2_with fail;refine(NK.out _).mono ?_;rintro e2 w5 ⟨rfl,f5⟩;have F5:=hid (F4.out.trans f5);have Q5:=hid (Q4.out.f0 f5);clear f5 NK y0 y1 y2 y3;generalize sh.num k=nb at *;rcases nb with _|_ <;> rcases ib with _|_
      case true.false=>
       have hk3:kn=3:=by rw[HE.out,EQ.out,ST.out];rfl
       go_wp2;go_ret;exact⟨by rw[hk3];rfl,F5.out⟩
      all_goals
       have E2:=hid (show z66 sh 0 l'=z66 sh (k+1) (l'.drop (k+1)) from by rw[EQ.out,ST.out];rfl);go_wp2;go_roundg (n - (k+1))
       case measure=>omega
       case rel=>exact⟨k+1,rfl,by omega,by go_num,E2.out,Q5.out,F5.out⟩
     ·obtain rfl:k=n:=by omega
      have hk0:kn=0:=by
       rw[HE.out,EQ.out,HN.out,List.drop_length];rfl
      go_wp2;go_ret;exact⟨by rw[hk0];rfl,F.out⟩
  ·go_wp2;go_ret;refine⟨?_,F3.out⟩;rw[EK.out];rfl
theorem zaa(l:List ByteArray)(A:Option Addr)(c B:Nat)(w:World)(hl:l.length≤281474976710656)(hv:Vars w)(hB:B≤w.heap.size)(h:Sl w B 1 (.slice A l.length c) l.length (z04 l)):
  Calls prog 14 #[.slice A l.length c] w (KnP l w):=by
 by_cases hw:z0x l=0
 ·rcases hc:cmL l with _|cm
  ·exact zoi l A c B w hw hc hB h
  ·exact zmx l A c B cm w hw hc hv hB h
 ·exact zo2 l A c B w hw hl hB h
end Go.Proofs.YtmalkppcahogjaaGreatDoor
