/- Contracts that the proof of E3 uses. No condition beyond those in each theorem. -/
import Derived.Test.YtamgdmiopinidaaGreatDoorSlE323
set_option linter.unusedVariables false
set_option linter.unusedSimpArgs false
set_option maxHeartbeats 8000000
set_option maxRecDepth 100000
namespace Go.Proofs.YtamgdmiopinidaaGreatDoor
open Lib (hid)
open Go.Proofs.Tryz (prog)
open Go.RowKit
def zaa(r:Rep):Prop:=∀x∈r.list,x.kind≠0
theorem z2k{w:World}{base o:Nat}{v:Value}{r:Rep}(h:z1f w base v r)(hg:zaa r)(hq:Whole w o 27 [.int .i64 0,.string ⟨#[]⟩,.int .i64 0,.slice none 0 0])(a b c d:Value):z1f (set4 w o a b c d) base v r:=by
 obtain⟨h0,u,rfl,ho⟩:=h
 refine⟨h0,u,rfl,?_⟩
 have hq0:=hq
 have hf:Fr [o] w (set4 w o a b c d):=((((Fr.refl [o] w).setCell (p:=⟨o,0,none⟩) (.inl (.head _)) a).setCell (p:=⟨o,1,none⟩) (.inl (.head _)) b).setCell (p:=⟨o,2,none⟩) (.inl (.head _)) c).setCell (p:=⟨o,3,none⟩) (.inl (.head _)) d
 by_cases hne:u.ownBlock=some o
 ·refine⟨ho.1,?_⟩
  rcases ho.2 with hz|⟨g,cap,cur,rfl,hb,hgg,hn,hm,hs,hx⟩
  ·exact .inl hz
  ·have:g=o:=by simpa[Value.ownBlock] using hne
   subst this
   unfold Whole at hq
   rw[hq] at hgg
   injection hgg with hgg
   injection hgg with hgg
   subst hgg
   have hc1:cap=1:=by simp at hs;omega
   subst hc1
   rcases hl:r.list with _|⟨x,l⟩
   ·rw[hl] at hx hn
    have hq2:Whole (set4 w g a b c d) g 27 [a,b,c,d]:=((hq0.set_ 0 a).set_ 1 b).set_ 2 c |>.set_ 3 d
    exact .inr ⟨g,1,_,rfl,hb,hq2,by simp,hm,by simp,by simp[z72]⟩
   ·exfalso
    rw[hl] at hx
    have hl0:l=[]:=by rw[hl] at hn;simpa using hn
    subst hl0
    have hk:=hg x (by rw[hl];exact .head _)
    simp[z72,rp4] at hx
    exact hk hx.1.symm
 ·exact z0n ho hf (fun k hk hm=>by simp at hm;subst hm;exact hne hk)
theorem zpk(l:List ByteArray):zaa (z25 l):=fun x hx=>by
 obtain⟨s,_,rfl⟩:=List.mem_map.1 hx
 show(4:Int)≠0
 decide
theorem z30{r:Rep}(h:r.list=[]):zaa r:=fun x hx=>by rw[h] at hx;cases hx
theorem zbw(s:List Ent)(now:Int)(key:ByteArray)(y:Itm)(til:Int)(chg nn:Bool)(e:Int){r:Rep}(h:zaa r):zaa (fin s now key y til chg nn e r).2:=by
 unfold fin
 split
 ·split
  ·split
   ·exact h
   ·exact z30 rfl
  ·exact h
 ·split
  ·exact z30 rfl
  ·exact z30 rfl
theorem z0f(c:Cm)(s:List Ent)(now:Int)(l:List ByteArray):zaa (doC c s now l).2:=by
 cases c
 all_goals
  simp only[doC]
  first
   | exact z30 rfl
   | exact zbw _ _ _ _ _ _ _ _ (z30 rfl)
   | exact zbw _ _ _ _ _ _ _ _ (zpk _)
   | (split <;> first|exact z30 rfl|exact zbw _ _ _ _ _ _ _ _ (z30 rfl)|(split <;> first|exact z30 rfl|exact zbw _ _ _ _ _ _ _ _ (z30 rfl)))
theorem zt2(s:List Ent)(now:Int)(l:List ByteArray):zaa (doR s now l).2:=by
 unfold doR
 split
 ·exact z30 rfl
 ·split
  ·exact z30 rfl
  ·exact z0f _ _ _ _
theorem z50(g B0:Nat)(sv:Value)(now:Int)(lv:Value)(l:List ByteArray)(s:List Ent)(pp:List Ent×Rep)(t:ByteArray)(ht:t=⟨#[103,101,116]⟩∨t=⟨#[115,101,116]⟩∨t=⟨#[97,112,112,101,110,100]⟩∨t=⟨#[115,116,114,108,101,110]⟩∨t=⟨#[105,110,99,114,98,121]⟩∨t=⟨#[103,101,116,114,97,110,103,101]⟩)(w:World)(hg:zaa pp.2)(h:Dr g B0 sv now lv l s w)(K:∀W,Fr [] w W→Dr g B0 sv now lv l s W→Calls prog 128 #[.pointer (some ⟨g,0,none⟩),.string t] W (ChD g B0 B0 sv now lv l pp W)) :
  Calls prog 86 #[.pointer (some ⟨g,0,none⟩),.string t] w (ChD g B0 B0 sv now lv l pp w):=by
 have F0:=hid ((Fr.refl [] w).alloc (.cells #[.int .i64 0,.string ⟨#[]⟩,.int .i64 0,.slice none 0 0] 27))
 have Q0:=hid (Whole.new w 27 [.int .i64 0,.string ⟨#[]⟩,.int .i64 0,.slice none 0 0])
 have KK:=hid (K _ F0.out (h.go F0.out))
 have QN:=hid (show w.heap.size∉g :: z2l sv from fun hm=>by have:=(h.low _ hm).2;omega)
 have hbz:=h.bz
 have HG:=hid hg
 clear K h hg
 rcases ht with rfl|rfl|rfl|rfl|rfl|rfl
 all_goals
  go_enter Tryz.func86,Tryz.ntmps86
  go_wp2_with fail
  refine KK.out.mono ?_
  rintro e1 w1 ⟨u,rfl,hu,f1,hd⟩
  have Q1:=hid (Q0.out.fr f1 QN.out)
  have F1:=hid (F0.out.up.trans f1)
  have HU:=hid hu
  have HD:=hid hd
  obtain⟨R,rc,rfl⟩:=hu.form
  clear hu f1 hd
  obtain⟨y0,y1,y2,y3⟩:=four Q1.out
  obtain⟨z0,z1,z2,z3⟩:=z0w Q1.out
  go_wp2
  refine bodyPost_ret (v:=.agg #[.int .i64 pp.2.kind,.string pp.2.text,.int .i64 pp.2.n,.slice R pp.2.list.length rc]) (by simp[results,Tryz.results86,go_sem,y0,y1,y2,y3]) rfl ?_
  exact⟨_,rfl,z2k HU.out HG.out Q1.out _ _ _ _,z1o F1.out (Nat.le_refl _) _ _ _ _,fun h=>(HD.out h).imp fun _ k=>k.set4W Q1.out hbz _ _ _ _⟩
theorem z5g(g B0:Nat)(sv:Value)(now:Int)(lv:Value)(l:List ByteArray)(s:List Ent)(pp:List Ent×Rep)(t:ByteArray)(ht:t=⟨#[100,101,108]⟩∨t=⟨#[101,120,105,115,116,115]⟩∨t=⟨#[116,121,112,101]⟩∨t=⟨#[107,101,121,115]⟩∨t=⟨#[101,120,112,105,114,101]⟩∨t=⟨#[116,116,108]⟩∨t=⟨#[112,101,114,115,105,115,116]⟩)(w:World)(hg:zaa pp.2)(h:Dr g B0 sv now lv l s w)(K:∀W,Fr [] w W→Dr g B0 sv now lv l s W→Calls prog 129 #[.pointer (some ⟨g,0,none⟩),.string t] W (ChD g B0 B0 sv now lv l pp W)) :
  Calls prog 86 #[.pointer (some ⟨g,0,none⟩),.string t] w (ChD g B0 B0 sv now lv l pp w):=by
 have F0:=hid ((Fr.refl [] w).alloc (.cells #[.int .i64 0,.string ⟨#[]⟩,.int .i64 0,.slice none 0 0] 27))
 have Q0:=hid (Whole.new w 27 [.int .i64 0,.string ⟨#[]⟩,.int .i64 0,.slice none 0 0])
 have KK:=hid (K _ F0.out (h.go F0.out))
 have QN:=hid (show w.heap.size∉g :: z2l sv from fun hm=>by have:=(h.low _ hm).2;omega)
 have hbz:=h.bz
 have HG:=hid hg
 clear K h hg
 rcases ht with rfl|rfl|rfl|rfl|rfl|rfl|rfl
 all_goals
  go_enter Tryz.func86,Tryz.ntmps86
  go_wp2_with fail
  refine KK.out.mono ?_
  rintro e1 w1 ⟨u,rfl,hu,f1,hd⟩
  have Q1:=hid (Q0.out.fr f1 QN.out)
  have F1:=hid (F0.out.up.trans f1)
  have HU:=hid hu
  have HD:=hid hd
  obtain⟨R,rc,rfl⟩:=hu.form
  clear hu f1 hd
  obtain⟨y0,y1,y2,y3⟩:=four Q1.out
  obtain⟨z0,z1,z2,z3⟩:=z0w Q1.out
  go_wp2
  refine bodyPost_ret (v:=.agg #[.int .i64 pp.2.kind,.string pp.2.text,.int .i64 pp.2.n,.slice R pp.2.list.length rc]) (by simp[results,Tryz.results86,go_sem,y0,y1,y2,y3]) rfl ?_
  exact⟨_,rfl,z2k HU.out HG.out Q1.out _ _ _ _,z1o F1.out (Nat.le_refl _) _ _ _ _,fun h=>(HD.out h).imp fun _ k=>k.set4W Q1.out hbz _ _ _ _⟩
theorem z4c(g B0:Nat)(sv:Value)(now:Int)(lv:Value)(l:List ByteArray)(s:List Ent)(pp:List Ent×Rep)(t:ByteArray)(ht:t=⟨#[108,112,117,115,104]⟩∨t=⟨#[114,112,117,115,104]⟩∨t=⟨#[108,112,111,112]⟩∨t=⟨#[114,112,111,112]⟩∨t=⟨#[108,114,97,110,103,101]⟩∨t=⟨#[108,116,114,105,109]⟩∨t=⟨#[108,114,101,109]⟩)(w:World)(hg:zaa pp.2)(h:Dr g B0 sv now lv l s w)(K:∀W,Fr [] w W→Dr g B0 sv now lv l s W→Calls prog 130 #[.pointer (some ⟨g,0,none⟩),.string t] W (ChD g B0 B0 sv now lv l pp W)) :
  Calls prog 86 #[.pointer (some ⟨g,0,none⟩),.string t] w (ChD g B0 B0 sv now lv l pp w):=by
 have F0:=hid ((Fr.refl [] w).alloc (.cells #[.int .i64 0,.string ⟨#[]⟩,.int .i64 0,.slice none 0 0] 27))
 have Q0:=hid (Whole.new w 27 [.int .i64 0,.string ⟨#[]⟩,.int .i64 0,.slice none 0 0])
 have KK:=hid (K _ F0.out (h.go F0.out))
 have QN:=hid (show w.heap.size∉g :: z2l sv from fun hm=>by have:=(h.low _ hm).2;omega)
 have hbz:=h.bz
 have HG:=hid hg
 clear K h hg
 rcases ht with rfl|rfl|rfl|rfl|rfl|rfl|rfl
 all_goals
  go_enter Tryz.func86,Tryz.ntmps86
  go_wp2_with fail
  refine KK.out.mono ?_
  rintro e1 w1 ⟨u,rfl,hu,f1,hd⟩
  have Q1:=hid (Q0.out.fr f1 QN.out)
  have F1:=hid (F0.out.up.trans f1)
  have HU:=hid hu
  have HD:=hid hd
  obtain⟨R,rc,rfl⟩:=hu.form
  clear hu f1 hd
  obtain⟨y0,y1,y2,y3⟩:=four Q1.out
  obtain⟨z0,z1,z2,z3⟩:=z0w Q1.out
  go_wp2
  refine bodyPost_ret (v:=.agg #[.int .i64 pp.2.kind,.string pp.2.text,.int .i64 pp.2.n,.slice R pp.2.list.length rc]) (by simp[results,Tryz.results86,go_sem,y0,y1,y2,y3]) rfl ?_
  exact⟨_,rfl,z2k HU.out HG.out Q1.out _ _ _ _,z1o F1.out (Nat.le_refl _) _ _ _ _,fun h=>(HD.out h).imp fun _ k=>k.set4W Q1.out hbz _ _ _ _⟩
theorem z57(g B0:Nat)(sv:Value)(now:Int)(lv:Value)(l:List ByteArray)(s:List Ent)(pp:List Ent×Rep)(t:ByteArray)(ht:t=⟨#[115,97,100,100]⟩∨t=⟨#[115,114,101,109]⟩∨t=⟨#[115,105,115,109,101,109,98,101,114]⟩∨t=⟨#[115,109,101,109,98,101,114,115]⟩∨t=⟨#[115,105,110,116,101,114]⟩∨t=⟨#[115,117,110,105,111,110]⟩∨t=⟨#[115,100,105,102,102]⟩)(w:World)(hg:zaa pp.2)(h:Dr g B0 sv now lv l s w)(K:∀W,Fr [] w W→Dr g B0 sv now lv l s W→Calls prog 131 #[.pointer (some ⟨g,0,none⟩),.string t] W (ChD g B0 B0 sv now lv l pp W)) :
  Calls prog 86 #[.pointer (some ⟨g,0,none⟩),.string t] w (ChD g B0 B0 sv now lv l pp w):=by
 have F0:=hid ((Fr.refl [] w).alloc (.cells #[.int .i64 0,.string ⟨#[]⟩,.int .i64 0,.slice none 0 0] 27))
 have Q0:=hid (Whole.new w 27 [.int .i64 0,.string ⟨#[]⟩,.int .i64 0,.slice none 0 0])
 have KK:=hid (K _ F0.out (h.go F0.out))
 have QN:=hid (show w.heap.size∉g :: z2l sv from fun hm=>by have:=(h.low _ hm).2;omega)
 have hbz:=h.bz
 have HG:=hid hg
 clear K h hg
 rcases ht with rfl|rfl|rfl|rfl|rfl|rfl|rfl
 all_goals
  go_enter Tryz.func86,Tryz.ntmps86
  go_wp2_with fail
  refine KK.out.mono ?_
  rintro e1 w1 ⟨u,rfl,hu,f1,hd⟩
  have Q1:=hid (Q0.out.fr f1 QN.out)
  have F1:=hid (F0.out.up.trans f1)
  have HU:=hid hu
  have HD:=hid hd
  obtain⟨R,rc,rfl⟩:=hu.form
  clear hu f1 hd
  obtain⟨y0,y1,y2,y3⟩:=four Q1.out
  obtain⟨z0,z1,z2,z3⟩:=z0w Q1.out
  go_wp2
  refine bodyPost_ret (v:=.agg #[.int .i64 pp.2.kind,.string pp.2.text,.int .i64 pp.2.n,.slice R pp.2.list.length rc]) (by simp[results,Tryz.results86,go_sem,y0,y1,y2,y3]) rfl ?_
  exact⟨_,rfl,z2k HU.out HG.out Q1.out _ _ _ _,z1o F1.out (Nat.le_refl _) _ _ _ _,fun h=>(HD.out h).imp fun _ k=>k.set4W Q1.out hbz _ _ _ _⟩
theorem z6f(g B0:Nat)(sv:Value)(now:Int)(lv:Value)(l:List ByteArray)(s:List Ent)(pp:List Ent×Rep)(t:ByteArray)(ht:t=⟨#[104,115,101,116]⟩∨t=⟨#[104,103,101,116]⟩∨t=⟨#[104,100,101,108]⟩∨t=⟨#[104,103,101,116,97,108,108]⟩)(w:World)(hg:zaa pp.2)(h:Dr g B0 sv now lv l s w)(K:∀W,Fr [] w W→Dr g B0 sv now lv l s W→Calls prog 132 #[.pointer (some ⟨g,0,none⟩),.string t] W (ChD g B0 B0 sv now lv l pp W)) :
  Calls prog 86 #[.pointer (some ⟨g,0,none⟩),.string t] w (ChD g B0 B0 sv now lv l pp w):=by
 have F0:=hid ((Fr.refl [] w).alloc (.cells #[.int .i64 0,.string ⟨#[]⟩,.int .i64 0,.slice none 0 0] 27))
 have Q0:=hid (Whole.new w 27 [.int .i64 0,.string ⟨#[]⟩,.int .i64 0,.slice none 0 0])
 have KK:=hid (K _ F0.out (h.go F0.out))
 have QN:=hid (show w.heap.size∉g :: z2l sv from fun hm=>by have:=(h.low _ hm).2;omega)
 have hbz:=h.bz
 have HG:=hid hg
 clear K h hg
 rcases ht with rfl|rfl|rfl|rfl
 all_goals
  go_enter Tryz.func86,Tryz.ntmps86
  go_wp2_with fail
  refine KK.out.mono ?_
  rintro e1 w1 ⟨u,rfl,hu,f1,hd⟩
  have Q1:=hid (Q0.out.fr f1 QN.out)
  have F1:=hid (F0.out.up.trans f1)
  have HU:=hid hu
  have HD:=hid hd
  obtain⟨R,rc,rfl⟩:=hu.form
  clear hu f1 hd
  obtain⟨y0,y1,y2,y3⟩:=four Q1.out
  obtain⟨z0,z1,z2,z3⟩:=z0w Q1.out
  go_wp2
  refine bodyPost_ret (v:=.agg #[.int .i64 pp.2.kind,.string pp.2.text,.int .i64 pp.2.n,.slice R pp.2.list.length rc]) (by simp[results,Tryz.results86,go_sem,y0,y1,y2,y3]) rfl ?_
  exact⟨_,rfl,z2k HU.out HG.out Q1.out _ _ _ _,z1o F1.out (Nat.le_refl _) _ _ _ _,fun h=>(HD.out h).imp fun _ k=>k.set4W Q1.out hbz _ _ _ _⟩
theorem z44(g B0:Nat)(sv:Value)(now:Int)(lv:Value)(l:List ByteArray)(s:List Ent)(pp:List Ent×Rep)(t:ByteArray)(ht:t=⟨#[122,97,100,100]⟩∨t=⟨#[122,114,101,109]⟩∨t=⟨#[122,115,99,111,114,101]⟩∨t=⟨#[122,114,97,110,107]⟩∨t=⟨#[122,114,97,110,103,101]⟩∨t=⟨#[122,114,97,110,103,101,98,121,115,99,111,114,101]⟩)(w:World)(hg:zaa pp.2)(h:Dr g B0 sv now lv l s w)(K:∀W,Fr [] w W→Dr g B0 sv now lv l s W→Calls prog 133 #[.pointer (some ⟨g,0,none⟩),.string t] W (ChD g B0 B0 sv now lv l pp W)) :
  Calls prog 86 #[.pointer (some ⟨g,0,none⟩),.string t] w (ChD g B0 B0 sv now lv l pp w):=by
 have F0:=hid ((Fr.refl [] w).alloc (.cells #[.int .i64 0,.string ⟨#[]⟩,.int .i64 0,.slice none 0 0] 27))
 have Q0:=hid (Whole.new w 27 [.int .i64 0,.string ⟨#[]⟩,.int .i64 0,.slice none 0 0])
 have KK:=hid (K _ F0.out (h.go F0.out))
 have QN:=hid (show w.heap.size∉g :: z2l sv from fun hm=>by have:=(h.low _ hm).2;omega)
 have hbz:=h.bz
 have HG:=hid hg
 clear K h hg
 rcases ht with rfl|rfl|rfl|rfl|rfl|rfl
 all_goals
  go_enter Tryz.func86,Tryz.ntmps86
  go_wp2_with fail
  refine KK.out.mono ?_
  rintro e1 w1 ⟨u,rfl,hu,f1,hd⟩
  have Q1:=hid (Q0.out.fr f1 QN.out)
  have F1:=hid (F0.out.up.trans f1)
  have HU:=hid hu
  have HD:=hid hd
  obtain⟨R,rc,rfl⟩:=hu.form
  clear hu f1 hd
  obtain⟨y0,y1,y2,y3⟩:=four Q1.out
  obtain⟨z0,z1,z2,z3⟩:=z0w Q1.out
  go_wp2
  refine bodyPost_ret (v:=.agg #[.int .i64 pp.2.kind,.string pp.2.text,.int .i64 pp.2.n,.slice R pp.2.list.length rc]) (by simp[results,Tryz.results86,go_sem,y0,y1,y2,y3]) rfl ?_
  exact⟨_,rfl,z2k HU.out HG.out Q1.out _ _ _ _,z1o F1.out (Nat.le_refl _) _ _ _ _,fun h=>(HD.out h).imp fun _ k=>k.set4W Q1.out hbz _ _ _ _⟩
theorem zuw(g B0:Nat)(sv:Value)(now:Int)(lv:Value)(l:List ByteArray)(s:List Ent)(c0:ByteArray)(w:World)(h:Dr g B0 sv now lv l s w) :
  Calls prog 86 #[.pointer (some ⟨g,0,none⟩),.string ⟨#[112,105,110,103]⟩] w (ChD g B0 B0 sv now lv l (doC .ping s now (c0 :: l)) w):=by
 have F0:=hid ((Fr.refl [] w).alloc (.cells #[.int .i64 0,.string ⟨#[]⟩,.int .i64 0,.slice none 0 0] 27))
 have Q0:=hid (Whole.new w 27 [.int .i64 0,.string ⟨#[]⟩,.int .i64 0,.slice none 0 0])
 have H:=hid h
 have hbz:=h.bz
 have EP:doC .ping s now (c0 :: l)=(s,z2x ⟨#[80,79,78,71]⟩):=rfl
 rw[EP]
 clear EP h
 go_enter Tryz.func86,Tryz.ntmps86
 go_wp2_with fail
 refine(zbv _ _).mono ?_
 rintro e1 w1 ⟨rfl,f1⟩
 have Q1:=hid (Q0.out.fr f1 (by simp))
 have F1:=hid (F0.out.trans f1)
 clear f1
 obtain⟨y0,y1,y2,y3⟩:=four Q1.out
 obtain⟨z0,z1,z2,z3⟩:=z0w Q1.out
 go_wp2
 refine bodyPost_ret (v:=.agg #[.int .i64 1,.string ⟨#[80,79,78,71]⟩,.int .i64 0,.slice none 0 0]) (by simp[results,Tryz.results86,go_sem,y0,y1,y2,y3]) rfl ?_
 exact⟨_,rfl,z1f.bare _ _ _ _ _,z1o F1.out.up (Nat.le_refl _) _ _ _ _,fun _=>⟨_,(H.out.go F1.out).set4W Q1.out hbz _ _ _ _⟩⟩
theorem zF(w:World):Hid (Fr [] w (w.alloc (.cells #[.int .i64 0,.string ⟨#[]⟩,.int .i64 0,.slice none 0 0] 27))):=hid ((Fr.refl [] w).alloc _)
theorem zQ(w:World):Hid (Whole (w.alloc (.cells #[.int .i64 0,.string ⟨#[]⟩,.int .i64 0,.slice none 0 0] 27)) w.heap.size 27 [.int .i64 0,.string ⟨#[]⟩,.int .i64 0,.slice none 0 0]):=hid (Whole.new w _ _)
theorem zF2(w:World)(g:Nat):Hid (Fr [] w ((w.alloc (.cells #[.pointer (some ⟨g,0,none⟩)] 115)).alloc (.cells #[.int .i64 0,.string ⟨#[]⟩,.int .i64 0,.slice none 0 0] 27))):=hid (((Fr.refl [] w).alloc _).alloc _)
theorem zP0(w:World)(g:Nat):Hid (Whole ((w.alloc (.cells #[.pointer (some ⟨g,0,none⟩)] 115)).alloc (.cells #[.int .i64 0,.string ⟨#[]⟩,.int .i64 0,.slice none 0 0] 27)) w.heap.size 115 [.pointer (some ⟨g,0,none⟩)]):=hid (Whole.alloc (Whole.new w 115 [.pointer (some ⟨g,0,none⟩)]) _)
theorem zQ0(w:World)(g:Nat):Hid (Whole ((w.alloc (.cells #[.pointer (some ⟨g,0,none⟩)] 115)).alloc (.cells #[.int .i64 0,.string ⟨#[]⟩,.int .i64 0,.slice none 0 0] 27)) (w.heap.size+1) 27 [.int .i64 0,.string ⟨#[]⟩,.int .i64 0,.slice none 0 0]):=hid (z3s w _ _ _)
theorem zV1(w:World)(g:Nat):Hid (Whole (((w.alloc (.cells #[.pointer (some ⟨g,0,none⟩)] 115)).alloc (.cells #[.int .i64 0,.string ⟨#[]⟩,.int .i64 0,.slice none 0 0] 27)).alloc (.cells #[.string ⟨#[]⟩,.int .i64 0,.string ⟨#[]⟩,.slice none 0 0,.slice none 0 0,.slice none 0 0,.int .i64 0] 45)) (w.heap.size+1+1) 45 [.string ⟨#[]⟩,.int .i64 0,.string ⟨#[]⟩,.slice none 0 0,.slice none 0 0,.slice none 0 0,.int .i64 0]):=hid (by
 have:=Whole.new ((w.alloc (.cells #[.pointer (some ⟨g,0,none⟩)] 115)).alloc (.cells #[.int .i64 0,.string ⟨#[]⟩,.int .i64 0,.slice none 0 0] 27)) 45 [.string ⟨#[]⟩,.int .i64 0,.string ⟨#[]⟩,.slice none 0 0,.slice none 0 0,.slice none 0 0,.int .i64 0]
 rwa[show((w.alloc (.cells #[.pointer (some ⟨g,0,none⟩)] 115)).alloc (.cells #[.int .i64 0,.string ⟨#[]⟩,.int .i64 0,.slice none 0 0] 27)).heap.size=w.heap.size+1+1 from by simp] at this)
section
variable {g B0:Nat} {sv:Value} {now:Int} {lv:Value} {l:List ByteArray} {s:List Ent} {w w1:World}
theorem zDI(hr:rises (ltK Ent.key) s=true)(hs:s.length≤16)(h:Dr g B0 sv now lv l s w):Hid (∀(W:World),Fr [] w W→Calls prog 163 #[.pointer (some ⟨g,0,none⟩),.string (wd l 0)] W (ItP B0 (z00 s now (wd l 0)).item W)):=
 hid (fun W hW=>zho g B0 sv now lv l s (wd l 0) W hr (by omega) (h.go hW))
theorem zC1{x:Itm}{X1 X2 X3:Option Addr}{x1 x2 x3:Nat}(Q1:Hid (Whole w1 w.heap.size 27 [.int .i64 0,.string ⟨#[]⟩,.int .i64 0,.slice none 0 0]))(HI:Hid (z0l w1 B0 (.agg #[.int .i64 x.kind,.string x.text,.slice X1 x.list.length x1,.slice X2 x.pairs.length x2,.slice X3 x.scores.length x3]) x))(H:Hid (Dr g B0 sv now lv l s w))(F1:Hid (Fr [] w w1)) :
  Hid (Cw g B0 sv now lv l s w1.heap.size [.int .i64 x.kind,.string x.text,.slice X1 x.list.length x1,.slice X2 x.pairs.length x2,.slice X3 x.scores.length x3] x w (w1.alloc (.cells #[.int .i64 x.kind,.string x.text,.slice X1 x.list.length x1,.slice X2 x.pairs.length x2,.slice X3 x.scores.length x3] 43))):=
 hid ⟨Q1.out.alloc _,Whole.new w1 _ _,HI.out.go ((Fr.refl [] w1).alloc _),(H.out.go F1.out).go ((Fr.refl [] w1).alloc _),F1.out.alloc _,(by have:=Q1.out.lt;exact this)⟩
end
theorem zCH(g B0:Nat)(sv:Value)(now:Int)(lv:Value)(l:List ByteArray)(s:List Ent)(w:World)(Y:Itm)(R:Rep)(C:Int)(ok:z1m s)(hn:0 < l.length)(SY:Hid Y.Small):Hid (∀(W:World) (yv rv:Value),Dr g B0 sv now lv l s W→z0l W B0 yv Y→z1f W (w.heap.size+1) rv R→Calls prog 170 #[.pointer (some ⟨g,0,none⟩),yv,rv,.int .i64 C] W (ChD g B0 (w.heap.size+1) sv now lv l (fin s now (wd l 0) Y (z00 s now (wd l 0)).til true false C R) W)):=
 hid (fun W yv rv hd hy hr=>zjk g B0 (w.heap.size+1) sv now lv l s Y yv R rv C W ok.rise (by have:=ok.le;omega) hn SY.out hd hy hr)
theorem zoa{v:Int}(h:z0m v=true):(⟨(Lib.itoa v).toArray⟩:ByteArray).size≤10:=by
 have:=(zka h).2
 show(Lib.itoa v).toArray.size≤10
 simpa using this
theorem ba_eq{a b:ByteArray}(h:a.data.toList=b.data.toList):a=b:=by
 cases a with|mk a=>cases b with|mk b=>exact congrArg ByteArray.mk (Array.toList_inj.1 h)
theorem rg_of{x:Itm}(f t:Int)(h:z02 1 x=0):(rgS x f t).data.toList=z29 x.text.data.toList f t:=by
 unfold rgS
 rw[if_pos h]
 exact zeo _ _ _
theorem zip{α:Type}(l:List α):z29 l 0 (-1)=l:=by
 unfold z29 z5s z5t
 simp only[Int.lt_irrefl,if_false,show((-1:Int) < 0) from by decide,if_true]
 by_cases h:l.length=0
 ·rw[List.eq_nil_of_length_eq_zero h];simp
 ·rw[if_neg (by omega),if_neg (by omega)]
  rw[List.take_of_length_le (by omega)]
  rfl
theorem zww{x:Itm}(h:z02 1 x=0):rgS x 0 (-1)=x.text:=ba_eq (by rw[rg_of _ _ h,zip])
theorem ad_ok{x:Itm}{n:Int}(h:z3r x n=0):z02 1 x=0∧z0m n=true∧z0m (z5m x+n)=true∧(x.kind≠0→z3v x.text.data.toList=some (z5m x))∧z0m (z5m x)=true∧adY x n=z27 ⟨(Lib.itoa (z5m x+n)).toArray⟩∧adN x n=z5m x+n:=by
 have hy:adY x n=z27 ⟨(Lib.itoa (z5m x+n)).toArray⟩:=by unfold adY;rw[if_pos h]
 have hn:adN x n=z5m x+n:=by unfold adN;rw[if_pos h]
 unfold z3r at h
 by_cases h1:z02 1 x=0
 ·rw[if_neg (by simpa using h1)] at h
  by_cases h2:x.kind≠0∧z3v x.text.data.toList=none
  ·rw[if_pos h2] at h;cases h
  ·rw[if_neg h2] at h
   by_cases h3:z0m n=true∧z0m (z5m x+n)=true
   ·have h4:x.kind≠0→z3v x.text.data.toList=some (z5m x):=fun hk=>by
     cases hL:z3v x.text.data.toList with
     | none=>exact absurd ⟨hk,hL⟩ h2
     | some u=>unfold z5m;rw[if_neg hk,hL];rfl
    refine⟨h1,h3.1,h3.2,h4,?_,hy,hn⟩
    by_cases hk:x.kind=0
    ·unfold z5m;rw[if_pos hk];decide
    ·exact(z6t.1 (h4 hk)).1
   ·rw[if_neg h3] at h;cases h
 ·rw[if_pos h1] at h;exact absurd h h1
theorem ap_ok{x:Itm}{s:ByteArray}(h:z3e x s=0):z02 1 x=0∧x.text.size+s.size≤60∧apY x s=z27 (x.text++s)∧apN x s=((x.text.size+s.size:Nat):Int):=by
 have hy:apY x s=z27 (x.text++s):=by unfold apY;rw[if_pos h]
 have hn:apN x s=((x.text.size+s.size:Nat):Int):=by unfold apN;rw[if_pos h]
 unfold z3e at h
 by_cases h1:z02 1 x=0
 ·rw[if_neg (by simpa using h1)] at h
  by_cases h2:60 < x.text.size+s.size
  ·rw[if_pos h2] at h;cases h
  ·exact⟨h1,by omega,hy,hn⟩
 ·rw[if_pos h1] at h;exact absurd h h1
theorem ap_no{x:Itm}{s:ByteArray}(h:z3e x s≠0):apY x s=z2r 0∧apN x s=0:=
 ⟨by unfold apY;rw[if_neg h],by unfold apN;rw[if_neg h]⟩
theorem znz{x:Itm}{s:ByteArray}:(apY x s).Small:=by
 by_cases h:z3e x s=0
 ·obtain⟨_,h1,h2,_⟩:=ap_ok h
  rw[h2]
  exact z8r (by simp;omega)
 ·rw[(ap_no h).1];exact z1c 0 (by decide)
theorem zpp{x:Itm}{n:Int}:(adY x n).Small:=by
 by_cases h:z3r x n=0
 ·obtain⟨_,_,h1,_,_,h2,_⟩:=ad_ok h
  rw[h2]
  exact z8r (by have:=zoa h1;omega)
 ·rw[(zxa rfl h).1];exact z1c 0 (by decide)
theorem z0s{l:List ByteArray}{n:Nat}(h:∀t∈l,t.size≤n)(i:Nat):(wd l i).size≤n:=by
 unfold wd
 rw[List.getD_eq_getElem?_getD]
 rcases hi:l[i]? with _|t
 ·show(⟨#[]⟩:ByteArray).size≤n
  exact Nat.zero_le _
 ·exact h t (List.mem_of_getElem? hi)
theorem zah{w:World}{B b off c:Nat}{l:List ByteArray}(h:Sl w B 1 (.slice (some ⟨b,off,none⟩) l.length c) l.length (z03 l))(h1:1≤l.length)(hc:¬c=1):Sl w B 1 (.slice (some ⟨b,off+1,none⟩) (l.length - 1) (c - 1)) (l.length - 1) (z03 (l.drop 1)):=by
 have hq:=h.cut (a:=1) (b:=l.length) h1 (Nat.le_refl _)
 rw[if_neg hc] at hq
 have e:((z03 l).drop (1 * 1)).take ((l.length - 1) * 1)=z03 (l.drop 1):=by
  rw[List.take_of_length_le (by simp[z03])]
  simp[z03,List.map_drop]
 rw[e] at hq
 exact hq
theorem z07{s:List Ent}(h:z1m s):∀e∈s,e.Small:=fun e he=>
 ⟨by have:=h.keys e he;omega,zj5 (z4h (h.items e he)),by have:=h.times e he;omega⟩
theorem zmk(g B0:Nat)(sv:Value)(now:Int)(lv:Value)(l:List ByteArray)(s:List Ent)(c0:ByteArray)(w:World)(ok:z1m s)(hn:2≤l.length)(h12:l.length≤11)(hz:∀t∈l,t.size≤60)(h:Dr g B0 sv now lv l s w) :
  Calls prog 128 #[.pointer (some ⟨g,0,none⟩),.string ⟨#[97,112,112,101,110,100]⟩] w (ChD g B0 B0 sv now lv l (doC .append_ s now (c0 :: l)) w):=by
 have hr:=ok.rise
 have hs16:=ok.le
 have DI:=zDI hr hs16 h
 have LS:=hid (z0a (z07 ok) now (wd l 0)).item
 have hzw:∀i,(wd l i).size≤60:=z0s hz
 have EP:doC .append_ s now (c0 :: l)=fin s now (wd l 0) (apY (z00 s now (wd l 0)).item (wd l 1)) (z00 s now (wd l 0)).til true false (z3e (z00 s now (wd l 0)).item (wd l 1)) (z0h (apN (z00 s now (wd l 0)).item (wd l 1))):=rfl
 have SY:=hid (show(apY (z00 s now (wd l 0)).item (wd l 1)).Small from znz)
 have OP:=hid (fun W u (k:z0q W W.heap.size u (z00 s now (wd l 0)).item)=>zit (z00 s now (wd l 0)).item u (wd l 1) W W.heap.size LS.out (Nat.le_refl _) k (by have:=hzw 1;omega))
 have CH:=zCH g B0 sv now lv l s w (apY (z00 s now (wd l 0)).item (wd l 1)) (z0h (apN (z00 s now (wd l 0)).item (wd l 1))) (z3e (z00 s now (wd l 0)).item (wd l 1)) ok (by omega) SY
 rw[EP]
 clear EP SY
 have H:=hid h
 have hlt:=h.lt
 have hbz:=h.bz
 obtain⟨SA,sc,rfl⟩:=h.sform
 obtain⟨LA,lc,rfl⟩:=h.lform
 obtain⟨b,off,rfl,hb,hc,hm,hat⟩:=h.word (by omega)
 have HAT:=hid hat
 have DG:=hid (fun W (hW:Fr [] w W)=>(h.go hW).three)
 unfold maxLen at hm
 clear h hr hat hzw ok
 generalize fin s now (wd l 0) (apY (z00 s now (wd l 0)).item (wd l 1)) (z00 s now (wd l 0)).til true false (z3e (z00 s now (wd l 0)).item (wd l 1)) (z0h (apN (z00 s now (wd l 0)).item (wd l 1)))=pp at *
 generalize apY (z00 s now (wd l 0)).item (wd l 1)=y at *
 generalize apN (z00 s now (wd l 0)).item (wd l 1)=nn at *
 generalize z3e (z00 s now (wd l 0)).item (wd l 1)=cc at *
 generalize (z00 s now (wd l 0)).item=x at *
 have ix1:(1:Int) < (l.length:Int):=by omega
 have F0:=zF w
 have Q0:=zQ w
 obtain⟨d0,d1,d2⟩:=DG.out _ F0.out
 have dw:=F0.out.cell (HAT.out 0 (by omega)) (by simp)
 rw[Nat.add_zero] at dw
 go_enter Tryz.func128,Tryz.ntmps128
 go_wp2_with fail
 refine(DI.out _ F0.out).mono ?_
 rintro e1 w1 ⟨xv,rfl,hi,f1⟩
 have F1:=hid (F0.out.trans f1)
 have Q1:=hid (Q0.out.fr f1 (by simp))
 have HI:=hid hi
 obtain⟨X1,x1,X2,x2,X3,x3,rfl⟩:=hi.form
 have hz1:=f1.size
 simp at hz1
 clear f1 hi d0 d1 d2 dw
 have C1:=zC1 Q1 HI H F1
 have C2:=hid (C1.out.go ((Fr.refl [] _).alloc (.cells #[.int .i64 0,.string ⟨#[]⟩,.slice none 0 0,.slice none 0 0,.slice none 0 0] 43)))
 obtain⟨d0,d1,d2,d3,d4⟩:=five C1.out.b
 have d5:=(C1.out.d).three.2.2
 have d6:=C1.out.f.cell (HAT.out 1 (by omega)) (by simp)
 obtain⟨h0,h1,h2,h3,h4⟩:=five C2.out.b
 have h5:=(C2.out.d).three.2.2
 have h6:=C2.out.f.cell (HAT.out 1 (by omega)) (by simp)
 have V2:=hid (z3s w1 (.cells #[.int .i64 x.kind,.string x.text,.slice X1 x.list.length x1,.slice X2 x.pairs.length x2,.slice X3 x.scores.length x3] 43) 43 [.int .i64 0,.string ⟨#[]⟩,.slice none 0 0,.slice none 0 0,.slice none 0 0])
 have hb1:¬g=w1.heap.size+1:=by have:=C1.out.d.lt;simp at this;omega
 have hb2:¬w1.heap.size+1=g:=by have:=C1.out.d.lt;simp at this;omega
 have hb3:¬b=w1.heap.size+1:=by omega
 have hb4:¬w1.heap.size+1=b:=by omega
 go_upto_region 11 with fail
 go_cut [8,9,10] (fun pb pn pe wx=>pn=.int .i64 nn∧pe=.int .i64 cc∧z8t B0 y (w1.alloc (.cells #[.int .i64 x.kind,.string x.text,.slice X1 x.list.length x1,.slice X2 x.pairs.length x2,.slice X3 x.scores.length x3] 43)) pb wx)
 case first=>
  go_region_held3 (fun wx=>wx.cell? ⟨w1.heap.size,0,none⟩=some (.int .i64 x.kind)∧wx.cell? ⟨w1.heap.size,1,none⟩=some (.string x.text)∧wx.cell? ⟨w1.heap.size,2,none⟩=some (.slice X1 x.list.length x1)∧wx.cell? ⟨w1.heap.size,3,none⟩=some (.slice X2 x.pairs.length x2)∧wx.cell? ⟨w1.heap.size,4,none⟩=some (.slice X3 x.scores.length x3)∧wx.cell? ⟨g,2,none⟩=some (.slice (some ⟨b,off,none⟩) l.length lc)∧wx.cell? ⟨b,off+1,none⟩=some (.string (wd l 1))) (go_keep) ((first|fail|(go_at_call 169;first|(refine(OP.out _ _ C1.out.drew.i.item).mono ?_;rintro e3 w3 ⟨yv,rfl,hy,f3⟩;obtain⟨A1,c1,A2,c2,A3,c3,rfl⟩:=hy.form;have C3:=hid (C1.out.go (z01 f3));have F3:=hid (z01 f3);have HY:=hid (hy.less (show B0≤_ from C1.out.d.bz));obtain⟨k0,k1,k2,k3,k4⟩:=five C3.out.b;have k5:=(C3.out.d).three.2.2;have k6:=C3.out.f.cell (HAT.out 1 (by omega)) (by simp);clear f3 hy d0 d1 d2 d3 d4 d5 d6 h0 h1 h2 h3 h4 h5 h6)|(refine(OP.out _ _ C2.out.drew.i.item).mono ?_;rintro e3 w3 ⟨yv,rfl,hy,f3⟩;obtain⟨A1,c1,A2,c2,A3,c3,rfl⟩:=hy.form;have C3:=hid (C2.out.go (z01 f3));have F3:=hid (z2g (z01 f3));have V3:=hid (V2.out.fr (z01 f3) (by simp));have y7:=five V3.out;have z7:=z10 V3.out;have HY:=hid (hy.less (show B0≤_ from C2.out.d.bz));obtain⟨k0,k1,k2,k3,k4⟩:=five C3.out.b;have k5:=(C3.out.d).three.2.2;have k6:=C3.out.f.cell (HAT.out 1 (by omega)) (by simp);clear f3 hy d0 d1 d2 d3 d4 d5 d6 h0 h1 h2 h3 h4 h5 h6))))
  all_goals
   go_wp2
   go_meet
   case rel=>first|with_reducible exact⟨rfl,rfl,z8t.new HY.out F3.out⟩|exact⟨rfl,rfl,z8t.put HY.out F3.out (by simp) V3.out⟩
 clear d0 d1 d2 d3 d4 d5 d6 h0 h1 h2 h3 h4 h5 h6
 obtain⟨rfl,rfl,gb,A1,c1,A2,c2,A3,c3,rfl,hgb,hw,hy,hf⟩:=hcut
 have HY:=hid hy
 have VB:=hid hw
 have C4:=hid (C1.out.go hf)
 have hgz:w.heap.size < gb:=by have:=C1.out.f.size;simp at hgb;have:=C1.out.gx;omega
 clear hw hy hf hgb
 obtain⟨m0,m1,m2,m3,m4⟩:=five VB.out
 go_upto_region 12 with fail
 go_region_held3 (fun wx=>wx.cell? ⟨gb,0,none⟩=some (.int .i64 y.kind)∧wx.cell? ⟨gb,1,none⟩=some (.string y.text)∧wx.cell? ⟨gb,2,none⟩=some (.slice A1 y.list.length c1)∧wx.cell? ⟨gb,3,none⟩=some (.slice A2 y.pairs.length c2)∧wx.cell? ⟨gb,4,none⟩=some (.slice A3 y.scores.length c3)) (go_keep) ((first|(go_at_call 171;refine(z0j _ _).mono ?_;rintro e5 w5 ⟨rfl,f5⟩;have C5:=hid (C4.out.go (z01 f5));have VB5:=hid (VB.out.fr (z01 f5) (by simp));have HY5:=hid (HY.out.go (z01 f5));clear f5 m0 m1 m2 m3 m4;obtain⟨m0,m1,m2,m3,m4⟩:=five VB5.out)|(go_at_call 170;refine(CH.out _ _ _ C5.out.d HY5.out (z1f.bare _ _ _ _ _)).mono ?_;rintro e6 w6 ⟨u,rfl,hu,f6,hd⟩;obtain⟨R,rc,rfl⟩:=hu.form;have VB6:=hid (VB5.out.fr f6 (fun hm=>by have:=(H.out.low _ hm).2;omega));have Q6:=hid (C5.out.q.fr f6 (fun hm=>by have:=(H.out.low _ hm).2;omega));have HU:=hid hu;have HD:=hid hd;have F6:=hid (C5.out.f.up.trans f6);clear f6 hu hd m0 m1 m2 m3 m4;obtain⟨m0,m1,m2,m3,m4⟩:=five VB6.out;obtain⟨y0,y1,y2,y3⟩:=four Q6.out;obtain⟨z0,z1,z2,z3⟩:=z0w Q6.out;have hgz1:¬gb=w.heap.size:=(by omega);have hgz2:¬w.heap.size=gb:=(by omega))))
 obtain⟨sp,pr⟩:=pp
 go_wp2
 refine bodyPost_ret (v:=.agg #[.int .i64 pr.kind,.string pr.text,.int .i64 pr.n,.slice R pr.list.length rc]) (by simp[results,Tryz.results128,go_sem,y0,y1,y2,y3]) rfl ?_
 exact ChD.fin4 HU.out F6.out Q6.out hbz HD.out
end Go.Proofs.YtamgdmiopinidaaGreatDoor
