/- Contracts that the proof of E3 uses. No condition beyond those in each theorem. -/
import Derived.Test.YtamgdmiopinidaaGreatDoorSlE331
set_option linter.unusedVariables false
set_option linter.unusedSimpArgs false
set_option maxHeartbeats 8000000
set_option maxRecDepth 100000
namespace Go.Proofs.YtamgdmiopinidaaGreatDoor
open Lib (hid)
open Go.Proofs.Tryz (prog)
open Go.RowKit
structure Kw(g B0:Nat)(sv:Value)(now:Int)(lv:Value)(l:List ByteArray)(s:List Ent)(bs:List (Nat×Nat×List Value))(w wr:World):Prop where
 bl:∀p∈bs,Whole wr p.1 p.2.1 p.2.2
 lo:∀p∈bs,w.heap.size≤p.1
 d:Dr g B0 sv now lv l s wr
 f:Fr [] w wr
section
variable {g B0:Nat} {sv:Value} {now:Int} {lv:Value} {l:List ByteArray} {s:List Ent} {bs:List (Nat×Nat×List Value)} {w wr w1:World}
theorem Kw.go(h:Kw g B0 sv now lv l s bs w wr)(k:Fr [] wr w1):Kw g B0 sv now lv l s bs w w1:=⟨fun p hp=>(h.bl p hp).fr k (by simp),h.lo,h.d.go k,h.f.trans k⟩
theorem zKW{y:Ent}{gb c1 c2 c3:Nat}{A1 A2 A3:Option Addr}(H:Hid (Dr g B0 sv now lv l s w))(P0:Hid (Whole ((w.alloc (.cells #[.pointer (some ⟨g,0,none⟩)] 115)).alloc (.cells #[.int .i64 0,.string ⟨#[]⟩,.int .i64 0,.slice none 0 0] 27)) w.heap.size 115 [.pointer (some ⟨g,0,none⟩)]))(Q0:Hid (Whole ((w.alloc (.cells #[.pointer (some ⟨g,0,none⟩)] 115)).alloc (.cells #[.int .i64 0,.string ⟨#[]⟩,.int .i64 0,.slice none 0 0] 27)) (w.heap.size+1) 27 [.int .i64 0,.string ⟨#[]⟩,.int .i64 0,.slice none 0 0]))(F0:Hid (Fr [] w ((w.alloc (.cells #[.pointer (some ⟨g,0,none⟩)] 115)).alloc (.cells #[.int .i64 0,.string ⟨#[]⟩,.int .i64 0,.slice none 0 0] 27))))(hf:Fr [] ((w.alloc (.cells #[.pointer (some ⟨g,0,none⟩)] 115)).alloc (.cells #[.int .i64 0,.string ⟨#[]⟩,.int .i64 0,.slice none 0 0] 27)) wr)(hw:Whole wr gb 45 [.string y.key,.int .i64 y.item.kind,.string y.item.text,.slice A1 y.item.list.length c1,.slice A2 y.item.pairs.length c2,.slice A3 y.item.scores.length c3,.int .i64 y.til])(hgb2:w.heap.size+1 < gb) :
  Hid (Kw g B0 sv now lv l s [(w.heap.size,115,[.pointer (some ⟨g,0,none⟩)]),(w.heap.size+1,27,[.int .i64 0,.string ⟨#[]⟩,.int .i64 0,.slice none 0 0]),(gb,45,[.string y.key,.int .i64 y.item.kind,.string y.item.text,.slice A1 y.item.list.length c1,.slice A2 y.item.pairs.length c2,.slice A3 y.item.scores.length c3,.int .i64 y.til])] w wr):=hid (by
 refine⟨fun p hp=>?_,fun p hp=>?_,H.out.go (F0.out.trans hf),F0.out.trans hf⟩
 ·simp at hp
  rcases hp with rfl|rfl|rfl
  ·exact P0.out.fr hf (by simp)
  ·exact Q0.out.fr hf (by simp)
  ·exact hw
 ·simp at hp
  rcases hp with rfl|rfl|rfl
  ·exact Nat.le_refl _
  ·exact Nat.le_succ _
  ·show w.heap.size≤gb;omega)
theorem Kw.drew(h:Kw g B0 sv now lv l s bs w wr):Kw g B0 sv now lv l s bs w wr.drew:=h.go (Fr.refl [] _).drew
theorem Kw.keep(h:Kw g B0 sv now lv l s bs w wr)(H:Dr g B0 sv now lv l s w)(k:Fr (g :: z2l sv) wr w1):∀p∈bs,Whole w1 p.1 p.2.1 p.2.2:=fun p hp=>
 (h.bl p hp).fr k (fun hm=>by have:=(H.low _ hm).2;have:=h.lo p hp;omega)
end
theorem ChD.fin4o{g B0 o:Nat}{sv:Value}{now:Int}{lv:Value}{l:List ByteArray}{s:List Ent}{r:Rep}{w w4:World}{A:Option Addr}{k:Nat}{cs:List Value}(ho:w.heap.size≤o)(hc:z1f w4 (o+1) (.agg #[.int .i64 r.kind,.string r.text,.int .i64 r.n,.slice A r.list.length k]) r)(hf:Fr (g :: z2l sv) w w4)(hq:Whole w4 o 27 cs)(hB:B0≤w.heap.size)(hd:r.kind≠2→∃sv',Dr g B0 sv' now lv l s w4) :
  ChD g B0 B0 sv now lv l (s,r) w (.returned (.agg #[.int .i64 r.kind,.string r.text,.int .i64 r.n,.slice A r.list.length k])) (set4 w4 o (.int .i64 r.kind) (.string r.text) (.int .i64 r.n) (.slice A r.list.length k)):=
 ⟨_,rfl,(hc.set4 (Nat.lt_succ_self _) _ _ _ _).base (by omega),z1o hf ho _ _ _ _,fun h=>(hd h).imp fun _ k=>k.set4W hq (by omega) _ _ _ _⟩
theorem ChD.fin4b{g B0 o:Nat}{sv:Value}{now:Int}{lv:Value}{l:List ByteArray}{s:List Ent}{r:Rep}{w w4:World}{A:Option Addr}{k:Nat}{cs:List Value}(ho:w.heap.size≤o)(hc:z1f w4 (o+1) (.agg #[.int .i64 r.kind,.string r.text,.int .i64 r.n,.slice A r.list.length k]) r)(hf:Fr (g :: z2l sv) w w4)(hq:Whole w4 o 27 cs)(hB:B0≤w.heap.size)(hd:r.kind≠2→∃sv',Dr g B0 sv' now lv l s w4) :
  ChD g B0 w.heap.size sv now lv l (s,r) w (.returned (.agg #[.int .i64 r.kind,.string r.text,.int .i64 r.n,.slice A r.list.length k])) (set4 w4 o (.int .i64 r.kind) (.string r.text) (.int .i64 r.n) (.slice A r.list.length k)):=
 ⟨_,rfl,(hc.set4 (Nat.lt_succ_self _) _ _ _ _).base (by omega),z1o hf ho _ _ _ _,fun h=>(hd h).imp fun _ k=>k.set4W hq (by omega) _ _ _ _⟩
theorem z9l(s:List Ent)(now:Int)(k:ByteArray)(u:Int):z5l s now k (z2r 0) u=z2m s k∧z1e s now k (z2r 0) u=0:=by
 unfold z5l z1e
 rw[if_pos z26,if_pos z26]
 exact⟨rfl,rfl⟩
def zwg(s:List Ent)(now:Int)(y:Ent)(n:Int):List Ent×Rep:=
 if n < 1 then (z2m s y.key,z0h 1) else if 1000000 < now+n then (s,z78 3) else (if z1e s now y.key y.item (now+n)=0 then z5l s now y.key y.item (now+n) else s,orR (z0h 1) (z1e s now y.key y.item (now+n)) false)
theorem zjb(g B0:Nat)(sv:Value)(now:Int)(lv0:Value)(l:List ByteArray)(s:List Ent)(y:Ent)(A1:Option Addr)(c1:Nat)(A2:Option Addr)(c2:Nat)(A3:Option Addr)(c3:Nat)(n:Int)(w:World)(hr:rises (ltK Ent.key) s=true)(hl:s.length≤1000)(hsy:y.item.Small)(h0:0≤now∧now≤1000000)(hn:-999999999≤n∧n≤999999999)(h:Dr g B0 sv now lv0 l s w)(hc:z2v w B0 (z7d y A1 c1 A2 c2 A3 c3) y) :
  Calls prog 180 #[.pointer (some ⟨g,0,none⟩),.agg #[.string y.key,.int .i64 y.item.kind,.string y.item.text,.slice A1 y.item.list.length c1,.slice A2 y.item.pairs.length c2,.slice A3 y.item.scores.length c3,.int .i64 y.til],.int .i64 n] w (ChD g B0 w.heap.size sv now lv0 l (zwg s now y n) w):=by
 obtain⟨pc0,hpc0⟩:∃c:Int,c=0:=⟨_,rfl⟩
 have PT0:=hid (fun W (hd:Dr g B0 sv now lv0 l s W)=>(show Calls prog 167 #[.pointer (some ⟨g,0,none⟩),.string y.key,.agg #[.int .i64 0,.string ⟨#[]⟩,.slice none 0 0,.slice none 0 0,.slice none 0 0],.int .i64 0] W (PutD g B0 sv now lv0 l (z2m s y.key) pc0 W) from by
  have:=z9o g B0 sv now lv0 l s y.key (z2r 0) (.agg #[.int .i64 0,.string ⟨#[]⟩,.slice none 0 0,.slice none 0 0,.slice none 0 0]) 0 W hr hl z6j hd (z0l.nothing _ _)
  rw[(z9l s now y.key 0).1,(z9l s now y.key 0).2] at this
  rw[hpc0]
  exact this))
 have HPC:=hid hpc0
 clear hpc0
 have PT:=hid (fun W (hd:Dr g B0 sv now lv0 l s W) (hy:z2v W B0 (z7d y A1 c1 A2 c2 A3 c3) y)=>z9o g B0 sv now lv0 l s y.key y.item _ (now+n) W hr hl hsy hd hy.item)
 have KW:=hid (show Kw g B0 sv now lv0 l s [(w.heap.size,45,[.string y.key,.int .i64 y.item.kind,.string y.item.text,.slice A1 y.item.list.length c1,.slice A2 y.item.pairs.length c2,.slice A3 y.item.scores.length c3,.int .i64 y.til]),(w.heap.size+1,27,[.int .i64 0,.string ⟨#[]⟩,.int .i64 0,.slice none 0 0])] w ((w.alloc (.cells #[.string y.key,.int .i64 y.item.kind,.string y.item.text,.slice A1 y.item.list.length c1,.slice A2 y.item.pairs.length c2,.slice A3 y.item.scores.length c3,.int .i64 y.til] 45)).alloc (.cells #[.int .i64 0,.string ⟨#[]⟩,.int .i64 0,.slice none 0 0] 27)) from by
  refine⟨fun p hp=>?_,fun p hp=>?_,(h.go ((Fr.refl [] w).alloc _)).go ((Fr.refl [] _).alloc _),((Fr.refl [] w).alloc _).alloc _⟩
  ·simp at hp
   rcases hp with rfl|rfl
   ·exact Whole.alloc (Whole.new w _ _) _
   ·exact z3s w _ _ _
  ·simp at hp
   rcases hp with rfl|rfl
   ·exact Nat.le_refl _
   ·exact Nat.le_succ _)
 have HC:=hid (hc.fr (((Fr.refl [] w).alloc (.cells #[.string y.key,.int .i64 y.item.kind,.string y.item.text,.slice A1 y.item.list.length c1,.slice A2 y.item.pairs.length c2,.slice A3 y.item.scores.length c3,.int .i64 y.til] 45)).alloc (.cells #[.int .i64 0,.string ⟨#[]⟩,.int .i64 0,.slice none 0 0] 27)))
 have H:=hid h
 have hlt:=h.lt
 have hbz:=h.bz
 have ED:=hid (show zwg s now y n=if n < 1 then (z2m s y.key,z0h 1) else if 1000000 < now+n then (s,z78 3) else (if z1e s now y.key y.item (now+n)=0 then z5l s now y.key y.item (now+n) else s,orR (z0h 1) (z1e s now y.key y.item (now+n)) false) from rfl)
 have dn1:=h.three.2.1
 clear h hc hr
 obtain⟨pp,hpp⟩:∃pp,pp=zwg s now y n:=⟨_,rfl⟩
 rw[←hpp]
 have HPP:=hid (hpp.trans ED.out)
 clear hpp ED
 have G1:=hid ((KW.out.d).three.2.1)
 have g1:=G1.out
 obtain⟨e0,e1,e2,e3,e4,e5,e6⟩:=seven (KW.out.bl _ (.head _))
 by_cases hn1:n < 1
 ·rw[if_pos hn1] at HPP
  have q1:decide (n < 1)=true:=decide_eq_true hn1
  go_enter Tryz.func180,Tryz.ntmps180
  go_upto_region 3 with fail
  have KD:=hid KW.out.drew
  have HD:=hid (HC.out.fr (Fr.refl [] _).drew)
  clear KW HC e1 e2 e3 e4 e5 e6
  have KW:=KD
  have HC:=HD
  clear KD HD
  go_region_held3 (fun wx=>wx.cell? ⟨w.heap.size,0,none⟩=some (.string y.key)) (go_keep) ((first|(go_at_call 171;refine(z0j _ _).mono ?_;rintro e5 w5 ⟨rfl,f5⟩;have KN:=hid (KW.out.go f5);have HCN:=hid (HC.out.fr f5);clear KW HC e0;have KW:=KN;have HC:=HCN;clear KN HCN f5;have e0:=(KW.out.bl _ (.head _)).cell 0)|(go_at_call 167;refine(PT0.out _ KW.out.d).mono ?_;rintro e6 w6 ⟨rfl,f6,sv6,hg6,hd6⟩;have WB:=hid (KW.out.keep H.out f6);have F6:=hid (KW.out.f.up.trans f6);have D6:=hid hd6;have G6:=hid hg6;clear f6 hg6 hd6 e0;have e0:=(WB.out _ (.head _)).cell 0)|(go_at_call 165;refine(z4r (z0h 1) _ pc0 false (w.heap.size+1+1) _ (z1f.bare _ _ _ _ _)).mono ?_;rintro e8 w8 ⟨rfl,f8⟩;have F8:=hid (F6.out.trans f8.up);have f8':=hid f8;have WB8:=hid (fun p hp=>(WB.out p hp).fr f8 (by simp));clear f8 e0;have e0:=(WB8.out _ (.head _)).cell 0;obtain⟨y0,y1,y2,y3⟩:=four (WB8.out _ (.tail _ (.head _)));obtain⟨z0,z1,z2,z3⟩:=z0w (WB8.out _ (.tail _ (.head _)));have HV:=hid (show z1f w8 (w.heap.size+1+1) (orV (.agg #[.int .i64 3,.string ⟨#[]⟩,.int .i64 1,.slice none 0 0]) pc0 false) (orR (z0h 1) pc0 false) from z8n (z1f.bare _ _ _ _ _) pc0 false);obtain⟨S,sc9,hS⟩:=HV.out.form;have HS9:=hid hS;clear hS;rw[HS9.out])))
  have E9:=hid (show pp=(if pc0=0 then z2m s y.key else s,orR (z0h 1) pc0 false) from by rw[HPP.out,if_pos HPC.out,HPC.out];rfl)
  have HV9:=hid (show z1f w8 (w.heap.size+1+1) (.agg #[.int .i64 (orR (z0h 1) pc0 false).kind,.string (orR (z0h 1) pc0 false).text,.int .i64 (orR (z0h 1) pc0 false).n,.slice S (orR (z0h 1) pc0 false).list.length sc9]) (orR (z0h 1) pc0 false) from by have:=HV.out;rw[HS9.out] at this;exact this)
  have HD9:=hid (show(orR (z0h 1) pc0 false).kind≠2→∃sv',Dr g B0 sv' now lv0 l (if pc0=0 then (z2m s y.key) else s) w8 from fun hk=>by
   by_cases hp:pc0=0
   ·rw[if_pos hp];exact⟨_,(D6.out hp).go f8'.out⟩
   ·exact absurd (show(orR (z0h 1) pc0 false).kind=2 from by unfold orR;rw[if_neg hp,if_neg (fun h=>by cases h.2)];rfl) hk)
  generalize (if pc0=0 then (z2m s y.key) else s)=sf at *
  generalize orR (z0h 1) pc0 false=q9 at *
  go_wp2
  refine bodyPost_ret (v:=.agg #[.int .i64 q9.kind,.string q9.text,.int .i64 q9.n,.slice S q9.list.length sc9]) (by simp[results,Tryz.results180,go_sem,y0,y1,y2,y3]) rfl ?_
  rw[E9.out]
  exact ChD.fin4b (Nat.le_succ _) HV9.out F8.out (WB8.out _ (.tail _ (.head _))) hbz HD9.out
 ·rw[if_neg hn1] at HPP
  have q1:decide (n < 1)=false:=decide_eq_false hn1
  have q1':¬n < 1:=hn1
  by_cases hm:1000000 < now+n
  ·rw[if_pos hm] at HPP
   have q2:decide (now+n > 1000000)=true:=decide_eq_true hm
   have q3:now+n > 1000000:=hm
   go_enter Tryz.func180,Tryz.ntmps180
   go_wp2_with fail
   refine(zag 3 _).mono ?_
   rintro e8 w8 ⟨rfl,f8⟩
   have K8:=hid (KW.out.go f8)
   clear f8 e0 e1 e2 e3 e4 e5 e6
   obtain⟨y0,y1,y2,y3⟩:=four (K8.out.bl _ (.tail _ (.head _)))
   obtain⟨z0,z1,z2,z3⟩:=z0w (K8.out.bl _ (.tail _ (.head _)))
   go_wp2
   refine bodyPost_ret (v:=.agg #[.int .i64 2,.string ⟨#[]⟩,.int .i64 3,.slice none 0 0]) (by simp[results,Tryz.results180,go_sem,y0,y1,y2,y3]) rfl ?_
   rw[HPP.out]
   exact ChD.fin4b (r:=z78 3) (Nat.le_succ _) (z1f.bare _ _ _ _ _) K8.out.f.up (K8.out.bl _ (.tail _ (.head _))) hbz (fun _=>⟨_,K8.out.d⟩)
  ·rw[if_neg hm] at HPP
   have q2:¬now+n > 1000000:=hm
   generalize z5l s now y.key y.item (now+n)=s2 at *
   generalize hpc9:z1e s now y.key y.item (now+n)=pc at *
   clear hpc9
   go_enter Tryz.func180,Tryz.ntmps180
   go_upto_region 6 with fail
   have KD:=hid KW.out.drew
   have HD:=hid (HC.out.fr (Fr.refl [] _).drew)
   clear KW HC
   have KW:=KD
   have HC:=HD
   clear KD HD
   go_region_held3 (fun wx=>wx.cell? ⟨w.heap.size,0,none⟩=some (.string y.key)∧wx.cell? ⟨w.heap.size,1,none⟩=some (.int .i64 y.item.kind)∧wx.cell? ⟨w.heap.size,2,none⟩=some (.string y.item.text)∧wx.cell? ⟨w.heap.size,3,none⟩=some (.slice A1 y.item.list.length c1)∧wx.cell? ⟨w.heap.size,4,none⟩=some (.slice A2 y.item.pairs.length c2)∧wx.cell? ⟨w.heap.size,5,none⟩=some (.slice A3 y.item.scores.length c3)) (go_keep) ((first|(go_at_call 171;refine(z0j _ _).mono ?_;rintro e5 w5 ⟨rfl,f5⟩;have KN:=hid (KW.out.go f5);have HCN:=hid (HC.out.fr f5);clear KW HC e0 e1 e2 e3 e4 e5 e6;have KW:=KN;have HC:=HCN;clear KN HCN f5;obtain⟨e0,e1,e2,e3,e4,e5,e6⟩:=seven (KW.out.bl _ (.head _)))|(go_at_call 167;refine(PT.out _ KW.out.d HC.out).mono ?_;rintro e6 w6 ⟨rfl,f6,sv6,hg6,hd6⟩;have WB:=hid (KW.out.keep H.out f6);have F6:=hid (KW.out.f.up.trans f6);have D6:=hid hd6;have G6:=hid hg6;clear f6 hg6 hd6 e0 e1 e2 e3 e4 e5 e6;obtain⟨e0,e1,e2,e3,e4,e5,e6⟩:=seven (WB.out _ (.head _)))|(go_at_call 165;refine(z4r (z0h 1) _ pc false (w.heap.size+1+1) _ (z1f.bare _ _ _ _ _)).mono ?_;rintro e8 w8 ⟨rfl,f8⟩;have F8:=hid (F6.out.trans f8.up);have f8':=hid f8;have WB8:=hid (fun p hp=>(WB.out p hp).fr f8 (by simp));clear f8 e0 e1 e2 e3 e4 e5 e6;obtain⟨e0,e1,e2,e3,e4,e5,e6⟩:=seven (WB8.out _ (.head _));obtain⟨y0,y1,y2,y3⟩:=four (WB8.out _ (.tail _ (.head _)));obtain⟨z0,z1,z2,z3⟩:=z0w (WB8.out _ (.tail _ (.head _)));have HV:=hid (show z1f w8 (w.heap.size+1+1) (orV (.agg #[.int .i64 3,.string ⟨#[]⟩,.int .i64 1,.slice none 0 0]) pc false) (orR (z0h 1) pc false) from z8n (z1f.bare _ _ _ _ _) pc false);obtain⟨S,sc9,hS⟩:=HV.out.form;have HS9:=hid hS;clear hS;rw[HS9.out])))
   have HV9:=hid (show z1f w8 (w.heap.size+1+1) (.agg #[.int .i64 (orR (z0h 1) pc false).kind,.string (orR (z0h 1) pc false).text,.int .i64 (orR (z0h 1) pc false).n,.slice S (orR (z0h 1) pc false).list.length sc9]) (orR (z0h 1) pc false) from by have:=HV.out;rw[HS9.out] at this;exact this)
   have HD9:=hid (show(orR (z0h 1) pc false).kind≠2→∃sv',Dr g B0 sv' now lv0 l (if pc=0 then s2 else s) w8 from fun hk=>by
    by_cases hp:pc=0
    ·rw[if_pos hp];exact⟨_,(D6.out hp).go f8'.out⟩
    ·exact absurd (show(orR (z0h 1) pc false).kind=2 from by unfold orR;rw[if_neg hp,if_neg (fun h=>by cases h.2)];rfl) hk)
   generalize (if pc=0 then s2 else s)=sf at *
   generalize orR (z0h 1) pc false=q9 at *
   go_wp2
   refine bodyPost_ret (v:=.agg #[.int .i64 q9.kind,.string q9.text,.int .i64 q9.n,.slice S q9.list.length sc9]) (by simp[results,Tryz.results180,go_sem,y0,y1,y2,y3]) rfl ?_
   rw[HPP.out]
   exact ChD.fin4b (Nat.le_succ _) HV9.out F8.out (WB8.out _ (.tail _ (.head _))) hbz HD9.out
theorem ztm{s:List Ent}(ok:z1m s)(now:Int)(k:ByteArray):0≤(z00 s now k).til∧(z00 s now k).til≤1000000:=by
 rcases z5j s now k with⟨h1,_⟩|⟨h1,_⟩
 ·rw[h1];decide
 ·exact ok.times _ h1
theorem zrq(x:Itm)(v:Value)(B:Nat)(w:World)(hk:0≤x.kind∧x.kind≤5)(h:z0q w B v x):Calls prog 178 #[v] w fun e w'=>e=.returned (.string (zio x.kind))∧Fr [] w w':=by
 obtain⟨A1,c1,A2,c2,A3,c3,rfl⟩:=h.form
 have FF:=hid (((Fr.refl [] w).alloc (.cells #[.int .i64 x.kind,.string x.text,.slice A1 x.list.length c1,.slice A2 x.pairs.length c2,.slice A3 x.scores.length c3] 43)).alloc (.cells #[.string ⟨#[110,111,110,101]⟩,.string ⟨#[115,116,114,105,110,103]⟩,.string ⟨#[108,105,115,116]⟩,.string ⟨#[115,101,116]⟩,.string ⟨#[104,97,115,104]⟩,.string ⟨#[122,115,101,116]⟩] 9))
 have E:=hid (show zio x.kind=if x.kind=0 then toB [110,111,110,101] else if x.kind=1 then toB [115,116,114,105,110,103] else if x.kind=2 then toB [108,105,115,116] else if x.kind=3 then toB [115,101,116] else if x.kind=4 then toB [104,97,115,104] else toB [122,115,101,116] from rfl)
 clear h
 generalize x.kind=kk at *
 generalize x.text=tt at *
 generalize x.list.length=n1 at *
 generalize x.pairs.length=n2 at *
 generalize x.scores.length=n3 at *
 have hq:kk=0∨kk=1∨kk=2∨kk=3∨kk=4∨kk=5:=by omega
 rw[E.out]
 clear E hk
 rcases hq with rfl|rfl|rfl|rfl|rfl|rfl
 all_goals
  go_enter Tryz.func178,Tryz.ntmps178
  go_wp2
  go_ret
  exact⟨rfl,FF.out⟩
theorem zt3(g B0:Nat)(sv:Value)(now:Int)(lv:Value)(l:List ByteArray)(s:List Ent)(c0:ByteArray)(w:World)(ok:z1m s)(hn:1≤l.length)(h12:l.length≤11)(hz:∀t∈l,t.size≤60)(h:Dr g B0 sv now lv l s w) :
  Calls prog 129 #[.pointer (some ⟨g,0,none⟩),.string ⟨#[116,121,112,101]⟩] w (ChD g B0 B0 sv now lv l (doC .type_ s now (c0 :: l)) w):=by
 have hr:=ok.rise
 have hs16:=ok.le
 have DI:=zDI hr hs16 h
 have LS:=hid (z0a (z07 ok) now (wd l 0)).item
 have hzw:∀i,(wd l i).size≤60:=z0s hz
 have hk5:0≤(z00 s now (wd l 0)).item.kind∧(z00 s now (wd l 0)).item.kind≤5:=by
  rcases z5h ok now (wd l 0) with⟨h1,_⟩|⟨h1,_⟩
  ·rw[h1];decide
  ·have:=(z4h h1).kind;omega
 have EP:doC .type_ s now (c0 :: l)=(s,z2x (zio (z00 s now (wd l 0)).item.kind)):=rfl
 have KD:=hid (fun W v B (k:z0q W B v (z00 s now (wd l 0)).item)=>zrq (z00 s now (wd l 0)).item v B W hk5 k)
 rw[EP]
 clear EP hk5
 have LK:=hid (fun W (hW:Fr [] w W)=>z1g s sv now (wd l 0) W B0 hr (by omega) (h.e.fr hW))
 have H:=hid h
 have hlt:=h.lt
 have hbz:=h.bz
 obtain⟨SA,sc,rfl⟩:=h.sform
 obtain⟨LA,lc,rfl⟩:=h.lform
 obtain⟨b,off,rfl,hb,hc,hm,hat⟩:=h.word (by omega)
 have HAT:=hid hat
 have DG:=hid (fun W (hW:Fr [] w W)=>(h.go hW).three)
 unfold maxLen at hm
 clear h hr hat hzw ok
 generalize z00 s now (wd l 0)=y at *
 generalize z1a s now (wd l 0)=bb at *
 have ix0:(0:Int) < (l.length:Int):=by omega
 clear DI
 have F0:=zF2 w g
 have P0:=zP0 w g
 have Q0:=zQ0 w g
 have F1:=hid (F0.out.alloc (.cells #[.string ⟨#[]⟩,.int .i64 0,.string ⟨#[]⟩,.slice none 0 0,.slice none 0 0,.slice none 0 0,.int .i64 0] 45))
 have V1:=zV1 w g
 have hn1:¬g=w.heap.size+1+1:=by omega
 have hn2:¬w.heap.size+1+1=g:=by omega
 have hn3:¬b=w.heap.size+1+1:=by omega
 have hn4:¬w.heap.size+1+1=b:=by omega
 have hn5:¬w.heap.size=w.heap.size+1+1:=by omega
 have hn6:¬w.heap.size+1+1=w.heap.size:=by omega
 have ix0n:0 < l.length:=by omega
 have p0:=P0.out.cell 0
 have p1:=(P0.out.alloc (.cells #[.string ⟨#[]⟩,.int .i64 0,.string ⟨#[]⟩,.slice none 0 0,.slice none 0 0,.slice none 0 0,.int .i64 0] 45)).cell 0
 obtain⟨d0,d1,d2⟩:=DG.out _ F0.out
 obtain⟨d3,d4,d5⟩:=DG.out _ F1.out
 have d6:=F0.out.cell (HAT.out 0 (by omega)) (by simp)
 have d7:=F1.out.cell (HAT.out 0 (by omega)) (by simp)
 rw[Nat.add_zero] at d6 d7
 go_enter Tryz.func129,Tryz.ntmps129
 go_upto_region 1 with fail
 go_cut [5,6] (fun pb po wx=>po=.bool bb∧z87 B0 y ((w.alloc (.cells #[.pointer (some ⟨g,0,none⟩)] 115)).alloc (.cells #[.int .i64 0,.string ⟨#[]⟩,.int .i64 0,.slice none 0 0] 27)) pb wx)
 case first=>
  go_region_held3 (fun wx=>wx.cell? ⟨w.heap.size,0,none⟩=some (.pointer (some ⟨g,0,none⟩))∧wx.cell? ⟨g,0,none⟩=some (.slice SA s.length sc)∧wx.cell? ⟨g,1,none⟩=some (.int .i64 now)∧wx.cell? ⟨g,2,none⟩=some (.slice (some ⟨b,off,none⟩) l.length lc)∧wx.cell? ⟨b,off,none⟩=some (.string (wd l 0))) (go_keep) ((go_at_call 105;first|(refine(LK.out _ F0.out.drew).mono ?_;rintro e1 w1 ⟨A1,c1,A2,c2,A3,c3,rfl,hc,f1⟩;have F2:=hid (z01 f1);have F3:=hid (F0.out.trans F2.out);have HC:=hid hc;obtain⟨z0,z1,z2⟩:=DG.out _ F3.out;have z3:=F3.out.cell (HAT.out 0 (by omega)) (by simp);rw[Nat.add_zero] at z3;have z4:=(P0.out.fr F2.out (by simp)).cell 0;clear f1 hc)|(refine(LK.out _ F1.out.drew).mono ?_;rintro e1 w1 ⟨A1,c1,A2,c2,A3,c3,rfl,hc,f1⟩;have F2:=hid (z2g (z01 f1));have F3:=hid (F1.out.trans (z01 f1));have HC:=hid hc;have V2:=hid (V1.out.fr (z01 f1) (by simp));obtain⟨z0,z1,z2⟩:=DG.out _ F3.out;have z3:=F3.out.cell (HAT.out 0 (by omega)) (by simp);rw[Nat.add_zero] at z3;have z4:=((P0.out.alloc (.cells #[.string ⟨#[]⟩,.int .i64 0,.string ⟨#[]⟩,.slice none 0 0,.slice none 0 0,.slice none 0 0,.int .i64 0] 45)).fr (z01 f1) (by simp)).cell 0;have y7:=seven V2.out;have z7:=z3p V2.out;clear f1 hc)))
  all_goals
   go_wp2
   go_meet
   case rel=>first|with_reducible exact⟨rfl,z87.new HC.out F2.out⟩|exact⟨rfl,z87.put HC.out F2.out (by simp) V2.out⟩
 clear d0 d1 d2 d3 d4 d5 d6 d7 p0 p1
 obtain⟨rfl,gb,A1,c1,A2,c2,A3,c3,rfl,hgb,hw,hc,hf⟩:=hcut
 have HC:=hid hc
 have hgb2:w.heap.size+1 < gb:=by simp at hgb;omega
 have KW:=zKW H P0 Q0 F0 hf hw hgb2
 clear hf hw hc hgb hn1 hn2 hn3 hn4 hn5 hn6
 generalize zio y.item.kind=kw at *
 obtain⟨e0,e1,e2,e3,e4,e5,e6⟩:=seven (KW.out.bl _ (.tail _ (.tail _ (.head _))))
 go_wp2_with fail
 refine(KD.out _ _ _ HC.out.item.item).mono ?_
 rintro e7 w7 ⟨rfl,f7⟩
 have K7:=hid (KW.out.go f7)
 clear f7 e0 e1 e2 e3 e4 e5 e6
 go_wp2_with fail
 refine(zbv _ _).mono ?_
 rintro e8 w8 ⟨rfl,f8⟩
 have K8:=hid (K7.out.go f8)
 clear f8
 obtain⟨y0,y1,y2,y3⟩:=four (K8.out.bl _ (.tail _ (.head _)))
 obtain⟨z0,z1,z2,z3⟩:=z0w (K8.out.bl _ (.tail _ (.head _)))
 go_wp2
 refine bodyPost_ret (v:=.agg #[.int .i64 1,.string kw,.int .i64 0,.slice none 0 0]) (by simp[results,Tryz.results129,go_sem,y0,y1,y2,y3]) rfl ?_
 exact ChD.fin4o (r:=z2x kw) (Nat.le_succ _) (z1f.bare _ _ _ _ _) K8.out.f.up (K8.out.bl _ (.tail _ (.head _))) hbz (fun _=>⟨_,K8.out.d⟩)
theorem z91(t:ByteArray)(n:Int)(g B0:Nat)(sv:Value)(now:Int)(lv:Value)(l:List ByteArray)(s:List Ent)(w:World)(ok:z1m s)(hn:1≤l.length)(h:Dr g B0 sv now lv l s w)(ht:(t=⟨#[116,116,108]⟩∧n=-2∧z1a s now (wd l 0)=false)∨(t=⟨#[116,116,108]⟩∧n=-1∧z1a s now (wd l 0)=true∧(z00 s now (wd l 0)).til=0)∨(t=⟨#[112,101,114,115,105,115,116]⟩∧n=0∧z1a s now (wd l 0)=false)∨(t=⟨#[112,101,114,115,105,115,116]⟩∧n=0∧z1a s now (wd l 0)=true∧(z00 s now (wd l 0)).til=0)∨(t=⟨#[101,120,112,105,114,101]⟩∧n=0∧z1a s now (wd l 0)=false)) :
  Calls prog 129 #[.pointer (some ⟨g,0,none⟩),.string t] w (ChD g B0 B0 sv now lv l (s,z0h n) w):=by
 have hr:=ok.rise
 have hs16:=ok.le
 have LK:=hid (fun W (hW:Fr [] w W)=>z1g s sv now (wd l 0) W B0 hr (by omega) (h.e.fr hW))
 have H:=hid h
 have hlt:=h.lt
 have hbz:=h.bz
 obtain⟨SA,sc,rfl⟩:=h.sform
 obtain⟨LA,lc,rfl⟩:=h.lform
 obtain⟨b,off,rfl,hb,hc,hm,hat⟩:=h.word (by omega)
 have HAT:=hid hat
 have DG:=hid (fun W (hW:Fr [] w W)=>(h.go hW).three)
 unfold maxLen at hm
 clear h hr hat ok
 generalize z00 s now (wd l 0)=y at *
 generalize z1a s now (wd l 0)=bb at *
 have ix0:(0:Int) < (l.length:Int):=by omega
 have HT:=hid ht
 clear ht
 have F0:=zF2 w g
 have P0:=zP0 w g
 have Q0:=zQ0 w g
 have F1:=hid (F0.out.alloc (.cells #[.string ⟨#[]⟩,.int .i64 0,.string ⟨#[]⟩,.slice none 0 0,.slice none 0 0,.slice none 0 0,.int .i64 0] 45))
 have V1:=zV1 w g
 have hn1:¬g=w.heap.size+1+1:=by omega
 have hn2:¬w.heap.size+1+1=g:=by omega
 have hn3:¬b=w.heap.size+1+1:=by omega
 have hn4:¬w.heap.size+1+1=b:=by omega
 have hn5:¬w.heap.size=w.heap.size+1+1:=by omega
 have hn6:¬w.heap.size+1+1=w.heap.size:=by omega
 have ix0n:0 < l.length:=by omega
 have p0:=P0.out.cell 0
 have p1:=(P0.out.alloc (.cells #[.string ⟨#[]⟩,.int .i64 0,.string ⟨#[]⟩,.slice none 0 0,.slice none 0 0,.slice none 0 0,.int .i64 0] 45)).cell 0
 obtain⟨d0,d1,d2⟩:=DG.out _ F0.out
 obtain⟨d3,d4,d5⟩:=DG.out _ F1.out
 have d6:=F0.out.cell (HAT.out 0 (by omega)) (by simp)
 have d7:=F1.out.cell (HAT.out 0 (by omega)) (by simp)
 rw[Nat.add_zero] at d6 d7
 go_enter Tryz.func129,Tryz.ntmps129
 go_upto_region 1 with fail
 go_cut [5,6] (fun pb po wx=>po=.bool bb∧z87 B0 y ((w.alloc (.cells #[.pointer (some ⟨g,0,none⟩)] 115)).alloc (.cells #[.int .i64 0,.string ⟨#[]⟩,.int .i64 0,.slice none 0 0] 27)) pb wx)
 case first=>
  go_region_held3 (fun wx=>wx.cell? ⟨w.heap.size,0,none⟩=some (.pointer (some ⟨g,0,none⟩))∧wx.cell? ⟨g,0,none⟩=some (.slice SA s.length sc)∧wx.cell? ⟨g,1,none⟩=some (.int .i64 now)∧wx.cell? ⟨g,2,none⟩=some (.slice (some ⟨b,off,none⟩) l.length lc)∧wx.cell? ⟨b,off,none⟩=some (.string (wd l 0))) (go_keep) ((go_at_call 105;first|(refine(LK.out _ F0.out.drew).mono ?_;rintro e1 w1 ⟨A1,c1,A2,c2,A3,c3,rfl,hc,f1⟩;have F2:=hid (z01 f1);have F3:=hid (F0.out.trans F2.out);have HC:=hid hc;obtain⟨z0,z1,z2⟩:=DG.out _ F3.out;have z3:=F3.out.cell (HAT.out 0 (by omega)) (by simp);rw[Nat.add_zero] at z3;have z4:=(P0.out.fr F2.out (by simp)).cell 0;clear f1 hc)|(refine(LK.out _ F1.out.drew).mono ?_;rintro e1 w1 ⟨A1,c1,A2,c2,A3,c3,rfl,hc,f1⟩;have F2:=hid (z2g (z01 f1));have F3:=hid (F1.out.trans (z01 f1));have HC:=hid hc;have V2:=hid (V1.out.fr (z01 f1) (by simp));obtain⟨z0,z1,z2⟩:=DG.out _ F3.out;have z3:=F3.out.cell (HAT.out 0 (by omega)) (by simp);rw[Nat.add_zero] at z3;have z4:=((P0.out.alloc (.cells #[.string ⟨#[]⟩,.int .i64 0,.string ⟨#[]⟩,.slice none 0 0,.slice none 0 0,.slice none 0 0,.int .i64 0] 45)).fr (z01 f1) (by simp)).cell 0;have y7:=seven V2.out;have z7:=z3p V2.out;clear f1 hc)))
  all_goals
   go_wp2
   go_meet
   case rel=>first|with_reducible exact⟨rfl,z87.new HC.out F2.out⟩|exact⟨rfl,z87.put HC.out F2.out (by simp) V2.out⟩
 clear d0 d1 d2 d3 d4 d5 d6 d7 p0 p1
 obtain⟨rfl,gb,A1,c1,A2,c2,A3,c3,rfl,hgb,hw,hc,hf⟩:=hcut
 have HC:=hid hc
 have hgb2:w.heap.size+1 < gb:=by simp at hgb;omega
 have KW:=zKW H P0 Q0 F0 hf hw hgb2
 clear hf hw hc hgb hn1 hn2 hn3 hn4 hn5 hn6
 rcases HT.out with⟨rfl,rfl,hb9⟩|⟨rfl,rfl,hb9,q9⟩|⟨rfl,rfl,hb9⟩|⟨rfl,rfl,hb9,q9⟩|⟨rfl,rfl,hb9⟩
 ·clear HT
  subst hb9
  have e6:=(KW.out.bl _ (.tail _ (.tail _ (.head _)))).cell 6
  go_wp2_with fail
  refine(z0j _ _).mono ?_
  rintro e8 w8 ⟨rfl,f8⟩
  have K8:=hid (KW.out.go f8)
  clear f8
  obtain⟨y0,y1,y2,y3⟩:=four (K8.out.bl _ (.tail _ (.head _)))
  obtain⟨z0,z1,z2,z3⟩:=z0w (K8.out.bl _ (.tail _ (.head _)))
  go_wp2
  refine bodyPost_ret (v:=.agg #[.int .i64 3,.string ⟨#[]⟩,.int .i64 (-2),.slice none 0 0]) (by simp[results,Tryz.results129,go_sem,y0,y1,y2,y3]) rfl ?_
  exact ChD.fin4o (r:=z0h (-2)) (Nat.le_succ _) (z1f.bare _ _ _ _ _) K8.out.f.up (K8.out.bl _ (.tail _ (.head _))) hbz (fun _=>⟨_,K8.out.d⟩)
 ·clear HT
  subst hb9
  have q3:(y.til==0)=true:=by simpa using q9
  clear q9
  have e6:=(KW.out.bl _ (.tail _ (.tail _ (.head _)))).cell 6
  go_wp2_with fail
  refine(z0j _ _).mono ?_
  rintro e8 w8 ⟨rfl,f8⟩
  have K8:=hid (KW.out.go f8)
  clear f8
  obtain⟨y0,y1,y2,y3⟩:=four (K8.out.bl _ (.tail _ (.head _)))
  obtain⟨z0,z1,z2,z3⟩:=z0w (K8.out.bl _ (.tail _ (.head _)))
  go_wp2
  refine bodyPost_ret (v:=.agg #[.int .i64 3,.string ⟨#[]⟩,.int .i64 (-1),.slice none 0 0]) (by simp[results,Tryz.results129,go_sem,y0,y1,y2,y3]) rfl ?_
  exact ChD.fin4o (r:=z0h (-1)) (Nat.le_succ _) (z1f.bare _ _ _ _ _) K8.out.f.up (K8.out.bl _ (.tail _ (.head _))) hbz (fun _=>⟨_,K8.out.d⟩)
 ·clear HT
  subst hb9
  have e6:=(KW.out.bl _ (.tail _ (.tail _ (.head _)))).cell 6
  go_wp2_with fail
  refine(z0j _ _).mono ?_
  rintro e8 w8 ⟨rfl,f8⟩
  have K8:=hid (KW.out.go f8)
  clear f8
  obtain⟨y0,y1,y2,y3⟩:=four (K8.out.bl _ (.tail _ (.head _)))
  obtain⟨z0,z1,z2,z3⟩:=z0w (K8.out.bl _ (.tail _ (.head _)))
  go_wp2
  refine bodyPost_ret (v:=.agg #[.int .i64 3,.string ⟨#[]⟩,.int .i64 0,.slice none 0 0]) (by simp[results,Tryz.results129,go_sem,y0,y1,y2,y3]) rfl ?_
  exact ChD.fin4o (r:=z0h 0) (Nat.le_succ _) (z1f.bare _ _ _ _ _) K8.out.f.up (K8.out.bl _ (.tail _ (.head _))) hbz (fun _=>⟨_,K8.out.d⟩)
 ·clear HT
  subst hb9
  have q3:(y.til==0)=true:=by simpa using q9
  clear q9
  have e6:=(KW.out.bl _ (.tail _ (.tail _ (.head _)))).cell 6
  go_wp2_with fail
  refine(z0j _ _).mono ?_
  rintro e8 w8 ⟨rfl,f8⟩
  have K8:=hid (KW.out.go f8)
  clear f8
  obtain⟨y0,y1,y2,y3⟩:=four (K8.out.bl _ (.tail _ (.head _)))
  obtain⟨z0,z1,z2,z3⟩:=z0w (K8.out.bl _ (.tail _ (.head _)))
  go_wp2
  refine bodyPost_ret (v:=.agg #[.int .i64 3,.string ⟨#[]⟩,.int .i64 0,.slice none 0 0]) (by simp[results,Tryz.results129,go_sem,y0,y1,y2,y3]) rfl ?_
  exact ChD.fin4o (r:=z0h 0) (Nat.le_succ _) (z1f.bare _ _ _ _ _) K8.out.f.up (K8.out.bl _ (.tail _ (.head _))) hbz (fun _=>⟨_,K8.out.d⟩)
 ·clear HT
  subst hb9
  have e6:=(KW.out.bl _ (.tail _ (.tail _ (.head _)))).cell 6
  go_wp2_with fail
  refine(z0j _ _).mono ?_
  rintro e8 w8 ⟨rfl,f8⟩
  have K8:=hid (KW.out.go f8)
  clear f8
  obtain⟨y0,y1,y2,y3⟩:=four (K8.out.bl _ (.tail _ (.head _)))
  obtain⟨z0,z1,z2,z3⟩:=z0w (K8.out.bl _ (.tail _ (.head _)))
  go_wp2
  refine bodyPost_ret (v:=.agg #[.int .i64 3,.string ⟨#[]⟩,.int .i64 0,.slice none 0 0]) (by simp[results,Tryz.results129,go_sem,y0,y1,y2,y3]) rfl ?_
  exact ChD.fin4o (r:=z0h 0) (Nat.le_succ _) (z1f.bare _ _ _ _ _) K8.out.f.up (K8.out.bl _ (.tail _ (.head _))) hbz (fun _=>⟨_,K8.out.d⟩)
theorem zwc(g B0:Nat)(sv:Value)(now:Int)(lv:Value)(l:List ByteArray)(s:List Ent)(c0:ByteArray)(w:World)(ok:z1m s)(hn:1≤l.length)(h12:l.length≤11)(hz:∀t∈l,t.size≤60)(h0:0≤now∧now≤1000000)(hk:z1a s now (wd l 0)=false)(h:Dr g B0 sv now lv l s w) :
  Calls prog 129 #[.pointer (some ⟨g,0,none⟩),.string ⟨#[116,116,108]⟩] w (ChD g B0 B0 sv now lv l (doC .ttl s now (c0 :: l)) w):=by
 have LT:=z2u ok now (wd l 0)
 have EP:doC .ttl s now (c0 :: l)=(s,z0h (-2)):=by
  show(s,z0h (if (z00 s now (wd l 0)).item.kind=0 then -2 else if (z00 s now (wd l 0)).til=0 then -1 else (z00 s now (wd l 0)).til - now))=_
  rw[hk] at LT
  rw[if_pos (by simpa using LT.symm)]
 rw[EP]
 exact z91 _ (-2) g B0 sv now lv l s w ok (by omega) h (.inl ⟨rfl,rfl,hk⟩)
theorem zvo(g B0:Nat)(sv:Value)(now:Int)(lv:Value)(l:List ByteArray)(s:List Ent)(c0:ByteArray)(w:World)(ok:z1m s)(hn:1≤l.length)(h12:l.length≤11)(hz:∀t∈l,t.size≤60)(h0:0≤now∧now≤1000000)(hk:(z1a s now (wd l 0)=true∧(z00 s now (wd l 0)).til=0))(h:Dr g B0 sv now lv l s w) :
  Calls prog 129 #[.pointer (some ⟨g,0,none⟩),.string ⟨#[116,116,108]⟩] w (ChD g B0 B0 sv now lv l (doC .ttl s now (c0 :: l)) w):=by
 have LT:=z2u ok now (wd l 0)
 have EP:doC .ttl s now (c0 :: l)=(s,z0h (-1)):=by
  show(s,z0h (if (z00 s now (wd l 0)).item.kind=0 then -2 else if (z00 s now (wd l 0)).til=0 then -1 else (z00 s now (wd l 0)).til - now))=_
  rw[hk.1] at LT
  rw[if_neg (by simpa using LT.symm)]
  rw[if_pos hk.2]
 rw[EP]
 exact z91 _ (-1) g B0 sv now lv l s w ok (by omega) h (.inr (.inl ⟨rfl,rfl,hk⟩))
theorem zw7(g B0:Nat)(sv:Value)(now:Int)(lv:Value)(l:List ByteArray)(s:List Ent)(c0:ByteArray)(w:World)(ok:z1m s)(hn:1≤l.length)(h12:l.length≤11)(hz:∀t∈l,t.size≤60)(h0:0≤now∧now≤1000000)(hk:(z1a s now (wd l 0)=true∧(z00 s now (wd l 0)).til≠0))(h:Dr g B0 sv now lv l s w) :
  Calls prog 129 #[.pointer (some ⟨g,0,none⟩),.string ⟨#[116,116,108]⟩] w (ChD g B0 B0 sv now lv l (doC .ttl s now (c0 :: l)) w):=by
 have hr:=ok.rise
 have hs16:=ok.le
 have DI:=zDI hr hs16 h
 have LS:=hid (z0a (z07 ok) now (wd l 0)).item
 have hzw:∀i,(wd l i).size≤60:=z0s hz
 have LT:=z2u ok now (wd l 0)
 have EP:doC .ttl s now (c0 :: l)=(s,z0h ((z00 s now (wd l 0)).til - now)):=by
  show(s,z0h (if (z00 s now (wd l 0)).item.kind=0 then -2 else if (z00 s now (wd l 0)).til=0 then -1 else (z00 s now (wd l 0)).til - now))=_
  rw[hk.1] at LT
  rw[if_neg (by simpa using LT.symm)]
  rw[if_neg hk.2]
 have bt:0≤(z00 s now (wd l 0)).til∧(z00 s now (wd l 0)).til≤1000000:=ztm ok now (wd l 0)
 rw[EP]
 clear EP LT
 have LK:=hid (fun W (hW:Fr [] w W)=>z1g s sv now (wd l 0) W B0 hr (by omega) (h.e.fr hW))
 have H:=hid h
 have hlt:=h.lt
 have hbz:=h.bz
 obtain⟨SA,sc,rfl⟩:=h.sform
 obtain⟨LA,lc,rfl⟩:=h.lform
 obtain⟨b,off,rfl,hb,hc,hm,hat⟩:=h.word (by omega)
 have HAT:=hid hat
 have DG:=hid (fun W (hW:Fr [] w W)=>(h.go hW).three)
 unfold maxLen at hm
 clear h hr hat hzw ok
 generalize z00 s now (wd l 0)=y at *
 generalize z1a s now (wd l 0)=bb at *
 have ix0:(0:Int) < (l.length:Int):=by omega
 have HB:=hid hk.1
 have q3:(y.til==0)=false:=by simpa using hk.2
 clear hk
 clear DI
 have F0:=zF2 w g
 have P0:=zP0 w g
 have Q0:=zQ0 w g
 have F1:=hid (F0.out.alloc (.cells #[.string ⟨#[]⟩,.int .i64 0,.string ⟨#[]⟩,.slice none 0 0,.slice none 0 0,.slice none 0 0,.int .i64 0] 45))
 have V1:=zV1 w g
 have hn1:¬g=w.heap.size+1+1:=by omega
 have hn2:¬w.heap.size+1+1=g:=by omega
 have hn3:¬b=w.heap.size+1+1:=by omega
 have hn4:¬w.heap.size+1+1=b:=by omega
 have hn5:¬w.heap.size=w.heap.size+1+1:=by omega
 have hn6:¬w.heap.size+1+1=w.heap.size:=by omega
 have ix0n:0 < l.length:=by omega
 have p0:=P0.out.cell 0
 have p1:=(P0.out.alloc (.cells #[.string ⟨#[]⟩,.int .i64 0,.string ⟨#[]⟩,.slice none 0 0,.slice none 0 0,.slice none 0 0,.int .i64 0] 45)).cell 0
 obtain⟨d0,d1,d2⟩:=DG.out _ F0.out
 obtain⟨d3,d4,d5⟩:=DG.out _ F1.out
 have d6:=F0.out.cell (HAT.out 0 (by omega)) (by simp)
 have d7:=F1.out.cell (HAT.out 0 (by omega)) (by simp)
 rw[Nat.add_zero] at d6 d7
 go_enter Tryz.func129,Tryz.ntmps129
 go_upto_region 1 with fail
 go_cut [5,6] (fun pb po wx=>po=.bool bb∧z87 B0 y ((w.alloc (.cells #[.pointer (some ⟨g,0,none⟩)] 115)).alloc (.cells #[.int .i64 0,.string ⟨#[]⟩,.int .i64 0,.slice none 0 0] 27)) pb wx)
 case first=>
  go_region_held3 (fun wx=>wx.cell? ⟨w.heap.size,0,none⟩=some (.pointer (some ⟨g,0,none⟩))∧wx.cell? ⟨g,0,none⟩=some (.slice SA s.length sc)∧wx.cell? ⟨g,1,none⟩=some (.int .i64 now)∧wx.cell? ⟨g,2,none⟩=some (.slice (some ⟨b,off,none⟩) l.length lc)∧wx.cell? ⟨b,off,none⟩=some (.string (wd l 0))) (go_keep) ((go_at_call 105;first|(refine(LK.out _ F0.out.drew).mono ?_;rintro e1 w1 ⟨A1,c1,A2,c2,A3,c3,rfl,hc,f1⟩;have F2:=hid (z01 f1);have F3:=hid (F0.out.trans F2.out);have HC:=hid hc;obtain⟨z0,z1,z2⟩:=DG.out _ F3.out;have z3:=F3.out.cell (HAT.out 0 (by omega)) (by simp);rw[Nat.add_zero] at z3;have z4:=(P0.out.fr F2.out (by simp)).cell 0;clear f1 hc)|(refine(LK.out _ F1.out.drew).mono ?_;rintro e1 w1 ⟨A1,c1,A2,c2,A3,c3,rfl,hc,f1⟩;have F2:=hid (z2g (z01 f1));have F3:=hid (F1.out.trans (z01 f1));have HC:=hid hc;have V2:=hid (V1.out.fr (z01 f1) (by simp));obtain⟨z0,z1,z2⟩:=DG.out _ F3.out;have z3:=F3.out.cell (HAT.out 0 (by omega)) (by simp);rw[Nat.add_zero] at z3;have z4:=((P0.out.alloc (.cells #[.string ⟨#[]⟩,.int .i64 0,.string ⟨#[]⟩,.slice none 0 0,.slice none 0 0,.slice none 0 0,.int .i64 0] 45)).fr (z01 f1) (by simp)).cell 0;have y7:=seven V2.out;have z7:=z3p V2.out;clear f1 hc)))
  all_goals
   go_wp2
   go_meet
   case rel=>first|with_reducible exact⟨rfl,z87.new HC.out F2.out⟩|exact⟨rfl,z87.put HC.out F2.out (by simp) V2.out⟩
 clear d0 d1 d2 d3 d4 d5 d6 d7 p0 p1
 obtain⟨rfl,gb,A1,c1,A2,c2,A3,c3,rfl,hgb,hw,hc,hf⟩:=hcut
 have HC:=hid hc
 have hgb2:w.heap.size+1 < gb:=by simp at hgb;omega
 have KW:=zKW H P0 Q0 F0 hf hw hgb2
 clear hf hw hc hgb hn1 hn2 hn3 hn4 hn5 hn6
 have hb9:=HB.out
 clear HB
 subst hb9
 have jw:IntKind.i64.wrap (y.til - now)=y.til - now:=IntWalk.i64_in _ (by omega)
 have KD:=hid KW.out.drew
 have e6:=(KW.out.bl _ (.tail _ (.tail _ (.head _)))).cell 6
 have p0:=(KW.out.bl _ (.head _)).cell 0
 have d1:=KW.out.d.three.2.1
 have hz1:¬w.heap.size=w.heap.size+1:=by omega
 have hz2:¬g=w.heap.size+1:=by omega
 have hz3:¬gb=w.heap.size+1:=by omega
 have hz4:¬w.heap.size+1=gb:=by omega
 have hz5:¬w.heap.size+1=g:=by omega
 go_upto_region 16 with fail
 go_region_held3 (fun wx=>wx.cell? ⟨w.heap.size,0,none⟩=some (.pointer (some ⟨g,0,none⟩))∧wx.cell? ⟨g,1,none⟩=some (.int .i64 now)∧wx.cell? ⟨gb,6,none⟩=some (.int .i64 y.til)) (go_keep) ((go_at_call 171;refine(z0j _ _).mono ?_;rintro e8 w8 ⟨rfl,f8⟩;have K8:=hid (KD.out.go f8);clear f8 e6 p0 d1;have e6:=(K8.out.bl _ (.tail _ (.tail _ (.head _)))).cell 6;have p0:=(K8.out.bl _ (.head _)).cell 0;have d1:=K8.out.d.three.2.1;obtain⟨y0,y1,y2,y3⟩:=four (K8.out.bl _ (.tail _ (.head _)));obtain⟨z0,z1,z2,z3⟩:=z0w (K8.out.bl _ (.tail _ (.head _)))))
 go_wp2
 refine bodyPost_ret (v:=.agg #[.int .i64 3,.string ⟨#[]⟩,.int .i64 (y.til - now),.slice none 0 0]) (by simp[results,Tryz.results129,go_sem,y0,y1,y2,y3]) rfl ?_
 exact ChD.fin4o (r:=z0h (y.til - now)) (Nat.le_succ _) (z1f.bare _ _ _ _ _) K8.out.f.up (K8.out.bl _ (.tail _ (.head _))) hbz (fun _=>⟨_,K8.out.d⟩)
theorem zx9(g B0:Nat)(sv:Value)(now:Int)(lv:Value)(l:List ByteArray)(s:List Ent)(c0:ByteArray)(w:World)(ok:z1m s)(hn:1≤l.length)(h12:l.length≤11)(hz:∀t∈l,t.size≤60)(h0:0≤now∧now≤1000000)(h:Dr g B0 sv now lv l s w) :
  Calls prog 129 #[.pointer (some ⟨g,0,none⟩),.string ⟨#[116,116,108]⟩] w (ChD g B0 B0 sv now lv l (doC .ttl s now (c0 :: l)) w):=by
 rcases hb:z1a s now (wd l 0) with _|_
 ·exact zwc g B0 sv now lv l s c0 w ok hn h12 hz h0 hb h
 ·by_cases ht:(z00 s now (wd l 0)).til=0
  ·exact zvo g B0 sv now lv l s c0 w ok hn h12 hz h0 ⟨hb,ht⟩ h
  ·exact zw7 g B0 sv now lv l s c0 w ok hn h12 hz h0 ⟨hb,ht⟩ h
end Go.Proofs.YtamgdmiopinidaaGreatDoor
