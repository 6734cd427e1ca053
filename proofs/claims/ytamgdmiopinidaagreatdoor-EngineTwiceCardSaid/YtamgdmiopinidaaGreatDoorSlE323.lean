/- Contracts that the proof of E3 uses. No condition beyond those in each theorem. -/
import Derived.Test.YtamgdmiopinidaaGreatDoorSlE322
import Derived.Deep.Cut
set_option linter.unusedVariables false
set_option linter.unusedSimpArgs false
set_option maxHeartbeats 8000000
set_option maxRecDepth 100000
namespace Go.Proofs.YtamgdmiopinidaaGreatDoor
open Lib (hid)
open Go.Proofs.Tryz (prog)
open Go.RowKit
structure Dr(g B0:Nat)(sv:Value)(now:Int)(lv:Value)(l:List ByteArray)(s:List Ent)(wr:World):Prop where
 d:Whole wr g 117 [sv,.int .i64 now,lv]
 e:z1w wr B0 sv s
 l:Sl wr B0 1 lv l.length (z03 l)
 gb:B0≤g
section
variable {g B0:Nat} {sv:Value} {now:Int} {lv:Value} {l:List ByteArray} {s:List Ent} {w w1:World}
theorem Dr.lt(h:Dr g B0 sv now lv l s w):g < w.heap.size:=h.d.lt
theorem Dr.bz(h:Dr g B0 sv now lv l s w):B0≤w.heap.size:=Nat.le_trans h.gb (Nat.le_of_lt h.lt)
theorem Dr.go(h:Dr g B0 sv now lv l s w)(k:Fr [] w w1):Dr g B0 sv now lv l s w1:=
 ⟨h.d.fr k (by simp),h.e.fr k,h.l.fr k h.bz (by simp),h.gb⟩
theorem Dr.three(h:Dr g B0 sv now lv l s w):w.cell? ⟨g,0,none⟩=some sv∧w.cell? ⟨g,1,none⟩=some (.int .i64 now)∧w.cell? ⟨g,2,none⟩=some lv:=⟨h.d.cell 0,h.d.cell 1,h.d.cell 2⟩
theorem Dr.sform(h:Dr g B0 sv now lv l s w):∃A c,sv=.slice A s.length c:=h.e.form
theorem Dr.lform(h:Dr g B0 sv now lv l s w):∃A c,lv=.slice A l.length c:=z7j h.l
theorem Dr.word{A:Option Addr}{c:Nat}(h:Dr g B0 sv now (.slice A l.length c) l s w)(hn:0 < l.length):∃b off,A=some ⟨b,off,none⟩∧b < B0∧l.length≤c∧c≤maxLen∧∀i,i < l.length→w.cell? ⟨b,off+i,none⟩=some (.string (wd l i)):=by
 obtain⟨b,off,e,hb,hc,hm,hat⟩:=h.l.at_ hn
 refine⟨b,off,e,hb,hc,hm,fun i hi=>hat i _ ?_⟩
 have:=z15 l i l[i] (List.getElem?_eq_getElem hi)
 rw[this]
 unfold wd
 rw[List.getD_eq_getElem?_getD,List.getElem?_eq_getElem hi]
 rfl
end
theorem zcy{w:World}{base e size n o T:Nat}{v:Value}{xs cs:List Value}(h:w.ownsRow base e size v n xs)(hw:Whole w o T cs)(hT:T≠e)(a b c d f:Value):(zr4 w o a b c d f).ownsRow base e size v n xs:=by
 have hn:=z9k h hw hT
 exact z22 (p:=⟨o,4,none⟩) _ (z22 (p:=⟨o,3,none⟩) _ (z22 (p:=⟨o,2,none⟩) _ (z22 (p:=⟨o,1,none⟩) _ (z22 (p:=⟨o,0,none⟩) _ h hn) hn) hn) hn) hn
theorem zco{w:World}{base o T:Nat}{v:Value}{x:Itm}{cs:List Value}(h:z0l w base v x)(hw:Whole w o T cs)(hT:T≠9∧T≠86∧T≠91)(a b c d f:Value):z0l (zr4 w o a b c d f) base v x:=by
 obtain⟨v1,v2,v3,rfl,o1,o2,o3⟩:=h
 exact⟨_,_,_,rfl,zcy o1 hw hT.1 _ _ _ _ _,zcy o2 hw hT.2.1 _ _ _ _ _,zcy o3 hw hT.2.2 _ _ _ _ _⟩
theorem zda{w:World}{base e size n o T:Nat}{v:Value}{xs cs:List Value}(h:w.ownsRow base e size v n xs)(hw:Whole w o T cs)(hT:T≠e)(a b c d f g k:Value):(set7 w o a b c d f g k).ownsRow base e size v n xs:=by
 have hn:=z9k h hw hT
 exact z22 (p:=⟨o,6,none⟩) _ (z22 (p:=⟨o,5,none⟩) _ (z22 (p:=⟨o,4,none⟩) _ (z22 (p:=⟨o,3,none⟩) _ (z22 (p:=⟨o,2,none⟩) _ (z22 (p:=⟨o,1,none⟩) _ (z22 (p:=⟨o,0,none⟩) _ h hn) hn) hn) hn) hn) hn) hn
def z87(B0:Nat)(y:Ent)(w0:World)(pb:Value)(wx:World):Prop:=
 ∃gb A1 c1 A2 c2 A3 c3,pb=.pointer (some ⟨gb,0,none⟩)∧w0.heap.size≤gb∧Whole wx gb 45 [.string y.key,.int .i64 y.item.kind,.string y.item.text,.slice A1 y.item.list.length c1,.slice A2 y.item.pairs.length c2,.slice A3 y.item.scores.length c3,.int .i64 y.til]∧z2v wx B0 (z7d y A1 c1 A2 c2 A3 c3) y∧Fr [] w0 wx
section
variable {B0:Nat} {y:Ent} {w0 w1:World} {A1 A2 A3:Option Addr} {c1 c2 c3:Nat}
theorem z87.new(hC:z2v w1 B0 (z7d y A1 c1 A2 c2 A3 c3) y)(hf:Fr [] w0 w1):z87 B0 y w0 (.pointer (some ⟨w1.heap.size,0,none⟩)) (w1.alloc (.cells #[.string y.key,.int .i64 y.item.kind,.string y.item.text,.slice A1 y.item.list.length c1,.slice A2 y.item.pairs.length c2,.slice A3 y.item.scores.length c3,.int .i64 y.til] 45)):=
 ⟨_,A1,c1,A2,c2,A3,c3,rfl,hf.size,Whole.new w1 _ _,hC.fr ((Fr.refl [] w1).alloc _),hf.alloc _⟩
theorem z87.put{gb:Nat}(hC:z2v w1 B0 (z7d y A1 c1 A2 c2 A3 c3) y)(hf:Fr [] w0 w1)(hg:w0.heap.size≤gb)(hv:Whole w1 gb 45 [.string ⟨#[]⟩,.int .i64 0,.string ⟨#[]⟩,.slice none 0 0,.slice none 0 0,.slice none 0 0,.int .i64 0]):z87 B0 y w0 (.pointer (some ⟨gb,0,none⟩)) (set7 w1 gb (.string y.key) (.int .i64 y.item.kind) (.string y.item.text) (.slice A1 y.item.list.length c1) (.slice A2 y.item.pairs.length c2) (.slice A3 y.item.scores.length c3) (.int .i64 y.til)):=by
 obtain⟨_,_,_,_,_,_,h7,o1,o2,o3⟩:=hC
 simp[z7d] at h7
 obtain⟨⟨rfl,rfl⟩,⟨rfl,rfl⟩,rfl,rfl⟩:=h7
 exact⟨gb,_,_,_,_,_,_,rfl,hg,(((((((hv.set_ 0 _).set_ 1 _).set_ 2 _).set_ 3 _).set_ 4 _).set_ 5 _).set_ 6 _),⟨_,_,_,_,_,_,rfl,zda o1 hv (by decide) _ _ _ _ _ _ _,zda o2 hv (by decide) _ _ _ _ _ _ _,zda o3 hv (by decide) _ _ _ _ _ _ _⟩,z43 hf hg _ _ _ _ _ _ _⟩
def z8t(B0:Nat)(y:Itm)(w0:World)(pb:Value)(wx:World):Prop:=
 ∃gb A1 c1 A2 c2 A3 c3,pb=.pointer (some ⟨gb,0,none⟩)∧w0.heap.size≤gb∧Whole wx gb 43 [.int .i64 y.kind,.string y.text,.slice A1 y.list.length c1,.slice A2 y.pairs.length c2,.slice A3 y.scores.length c3]∧z0l wx B0 (.agg #[.int .i64 y.kind,.string y.text,.slice A1 y.list.length c1,.slice A2 y.pairs.length c2,.slice A3 y.scores.length c3]) y∧Fr [] w0 wx
theorem z8t.new{y:Itm}(hC:z0l w1 B0 (.agg #[.int .i64 y.kind,.string y.text,.slice A1 y.list.length c1,.slice A2 y.pairs.length c2,.slice A3 y.scores.length c3]) y)(hf:Fr [] w0 w1):z8t B0 y w0 (.pointer (some ⟨w1.heap.size,0,none⟩)) (w1.alloc (.cells #[.int .i64 y.kind,.string y.text,.slice A1 y.list.length c1,.slice A2 y.pairs.length c2,.slice A3 y.scores.length c3] 43)):=
 ⟨_,A1,c1,A2,c2,A3,c3,rfl,hf.size,Whole.new w1 _ _,hC.go ((Fr.refl [] w1).alloc _),hf.alloc _⟩
theorem z8t.put{y:Itm}{gb:Nat}(hC:z0l w1 B0 (.agg #[.int .i64 y.kind,.string y.text,.slice A1 y.list.length c1,.slice A2 y.pairs.length c2,.slice A3 y.scores.length c3]) y)(hf:Fr [] w0 w1)(hg:w0.heap.size≤gb)(hv:Whole w1 gb 43 [.int .i64 0,.string ⟨#[]⟩,.slice none 0 0,.slice none 0 0,.slice none 0 0]):z8t B0 y w0 (.pointer (some ⟨gb,0,none⟩)) (zr4 w1 gb (.int .i64 y.kind) (.string y.text) (.slice A1 y.list.length c1) (.slice A2 y.pairs.length c2) (.slice A3 y.scores.length c3)):=
 ⟨gb,_,_,_,_,_,_,rfl,hg,zld hv,zco hC hv (by decide) _ _ _ _ _,z49 hf hg _ _ _ _ _⟩
end
def ItP(base:Nat)(x:Itm)(w:World)(e:Ending)(w':World):Prop:=∃u,e=.returned u∧z0l w' base u x∧Fr [] w w'
theorem zho(g B0:Nat)(sv:Value)(now:Int)(lv:Value)(l:List ByteArray)(s:List Ent)(k:ByteArray)(w:World)(hr:rises (ltK Ent.key) s=true)(hl:s.length≤1000)(h:Dr g B0 sv now lv l s w) :
  Calls prog 163 #[.pointer (some ⟨g,0,none⟩),.string k] w (ItP B0 (z00 s now k).item w):=by
 have LK:=hid (fun W (hW:Fr [] w W)=>z1g s sv now k W B0 hr (by omega) (h.e.fr hW))
 have DG:=hid (fun W (hW:Fr [] w W)=>(h.go hW).three)
 have W0:=hid (Whole.new w 43 [.int .i64 0,.string ⟨#[]⟩,.slice none 0 0,.slice none 0 0,.slice none 0 0])
 have F0:=hid ((Fr.refl [] w).alloc (.cells #[.int .i64 0,.string ⟨#[]⟩,.slice none 0 0,.slice none 0 0,.slice none 0 0] 43))
 have hlt:=h.lt
 have hbz:=h.bz
 obtain⟨SA,sc,rfl⟩:=h.sform
 clear h hr
 have F1:=hid (F0.out.alloc (.cells #[.string ⟨#[]⟩,.int .i64 0,.string ⟨#[]⟩,.slice none 0 0,.slice none 0 0,.slice none 0 0,.int .i64 0] 45))
 have V1:=hid (z3s w (.cells #[.int .i64 0,.string ⟨#[]⟩,.slice none 0 0,.slice none 0 0,.slice none 0 0] 43) 45 [.string ⟨#[]⟩,.int .i64 0,.string ⟨#[]⟩,.slice none 0 0,.slice none 0 0,.slice none 0 0,.int .i64 0])
 obtain⟨x0,x1,x2⟩:=DG.out _ F0.out
 obtain⟨x3,x4,x5⟩:=DG.out _ F1.out
 clear x2 x5
 have hn1:¬g=w.heap.size+1:=by omega
 have hn2:¬w.heap.size+1=g:=by omega
 generalize z00 s now k=y at *
 generalize z1a s now k=bb at *
 go_enter Tryz.func163,Tryz.ntmps163
 go_upto_region 1 with fail
 go_cut [5,6] (fun pb _ wx=>z87 B0 y (w.alloc (.cells #[.int .i64 0,.string ⟨#[]⟩,.slice none 0 0,.slice none 0 0,.slice none 0 0] 43)) pb wx)
 case first=>
  go_region_held3 (fun wx=>wx.cell? ⟨g,0,none⟩=some (.slice SA s.length sc)∧wx.cell? ⟨g,1,none⟩=some (.int .i64 now)) (go_keep) ((go_at_call 105;first|(refine(LK.out _ F0.out.drew).mono ?_;rintro e1 w1 ⟨A1,c1,A2,c2,A3,c3,rfl,hc,f1⟩;have F2:=hid (z01 f1);have F3:=hid (F0.out.trans F2.out);have HC:=hid hc;obtain⟨z0,z1,z2⟩:=DG.out _ F3.out;clear f1 hc z2)|(refine(LK.out _ F1.out.drew).mono ?_;rintro e1 w1 ⟨A1,c1,A2,c2,A3,c3,rfl,hc,f1⟩;have F2:=hid (z2g (z01 f1));have F3:=hid (F1.out.trans (z01 f1));have HC:=hid hc;have V2:=hid (V1.out.fr (z01 f1) (by simp));obtain⟨z0,z1,z2⟩:=DG.out _ F3.out;have y7:=seven V2.out;have z7:=z3p V2.out;clear f1 hc z2)))
  all_goals
   go_wp2
   go_meet
   case rel=>first|with_reducible exact z87.new HC.out F2.out|exact z87.put HC.out F2.out (by simp) V2.out
 clear x0 x1 x3 x4
 obtain⟨gb,A1,c1,A2,c2,A3,c3,rfl,hgb,hw,hc,hf⟩:=hcut
 have HI:=hid hc.item
 have W2:=hid (W0.out.fr hf (by simp))
 have F2:=hid (F0.out.trans hf)
 obtain⟨x0,x1,x2,x3,x4,x5,x6⟩:=seven hw
 obtain⟨a0,a1,a2,a3,a4⟩:=five W2.out
 obtain⟨b0,b1,b2,b3,b4⟩:=z10 W2.out
 clear hw hc hf
 go_wp2
 refine bodyPost_ret (v:=.agg #[.int .i64 y.item.kind,.string y.item.text,.slice A1 y.item.list.length c1,.slice A2 y.item.pairs.length c2,.slice A3 y.item.scores.length c3]) (by simp[results,Tryz.results163,go_sem,a0,a1,a2,a3,a4]) rfl ?_
 exact⟨_,rfl,zco HI.out W2.out (by decide) _ _ _ _ _,z49 F2.out (Nat.le_refl _) _ _ _ _ _⟩
theorem zej(g B0:Nat)(sv:Value)(now:Int)(lv:Value)(l:List ByteArray)(s:List Ent)(k:ByteArray)(w:World)(hr:rises (ltK Ent.key) s=true)(hl:s.length≤1000)(h:Dr g B0 sv now lv l s w) :
  Calls prog 177 #[.pointer (some ⟨g,0,none⟩),.string k] w fun e w'=>e=.returned (.bool (z1a s now k))∧Fr [] w w':=by
 have LK:=hid (fun W (hW:Fr [] w W)=>z1g s sv now k W B0 hr (by omega) (h.e.fr hW))
 have DG:=hid (fun W (hW:Fr [] w W)=>(h.go hW).three)
 have F1:=hid ((Fr.refl [] w).alloc (.cells #[.string ⟨#[]⟩,.int .i64 0,.string ⟨#[]⟩,.slice none 0 0,.slice none 0 0,.slice none 0 0,.int .i64 0] 45))
 have V1:=hid (Whole.new w 45 [.string ⟨#[]⟩,.int .i64 0,.string ⟨#[]⟩,.slice none 0 0,.slice none 0 0,.slice none 0 0,.int .i64 0])
 have hlt:=h.lt
 obtain⟨SA,sc,rfl⟩:=h.sform
 clear h hr
 obtain⟨x0,x1,x2⟩:=DG.out _ (Fr.refl [] w)
 obtain⟨x3,x4,x5⟩:=DG.out _ F1.out
 clear x2 x5
 have hn1:¬g=w.heap.size:=by omega
 have hn2:¬w.heap.size=g:=by omega
 generalize z00 s now k=y at *
 generalize z1a s now k=bb at *
 go_enter Tryz.func177,Tryz.ntmps177
 go_upto_region 1 with fail
 go_cut [5,6] (fun _ pb wx=>pb=.bool bb∧Fr [] w wx)
 case first=>
  go_region_held3 (fun wx=>wx.cell? ⟨g,0,none⟩=some (.slice SA s.length sc)∧wx.cell? ⟨g,1,none⟩=some (.int .i64 now)) (go_keep) ((go_at_call 105;first|(refine(LK.out _ (Fr.refl [] w).drew).mono ?_;rintro e1 w1 ⟨A1,c1,A2,c2,A3,c3,rfl,hc,f1⟩;have F2:=hid (z01 f1);obtain⟨z0,z1,z2⟩:=DG.out _ F2.out;clear f1 hc z2)|(refine(LK.out _ F1.out.drew).mono ?_;rintro e1 w1 ⟨A1,c1,A2,c2,A3,c3,rfl,hc,f1⟩;have F2:=hid (F1.out.trans (z01 f1));have V2:=hid (V1.out.fr (z01 f1) (by simp));obtain⟨z0,z1,z2⟩:=DG.out _ F2.out;have y7:=seven V2.out;have z7:=z3p V2.out;clear f1 hc z2)))
  all_goals
   go_wp2
   go_meet
   case rel=>first|with_reducible exact⟨rfl,F2.out.alloc _⟩|exact⟨rfl,z43 F2.out (Nat.le_refl _) _ _ _ _ _ _ _⟩
 obtain⟨rfl,hf⟩:=hcut
 have F2:=hid hf
 clear hf x0 x1 x3 x4
 go_wp2
 go_ret
 exact⟨rfl,F2.out⟩
theorem z38(g B0:Nat)(sv:Value)(now:Int)(lv:Value)(l:List ByteArray)(s:List Ent)(i:Nat)(n:Int)(w:World)(hi:i < l.length)(hz:∀t∈l,t.size≤281474976710656)(hn:z3v (wd l i).data.toList=some n)(hv:Vars w)(h:Dr g B0 sv now lv l s w) :
  Calls prog 174 #[.pointer (some ⟨g,0,none⟩),.int .i64 i] w fun e w'=>e=.returned (.int .i64 n)∧Fr [] w w':=by
 obtain⟨LA,lc,rfl⟩:=h.lform
 obtain⟨b,off,rfl,hb,hc,hm,hat⟩:=h.word (by omega)
 have hw:(wd l i)∈l:=by
  unfold wd
  rw[List.getD_eq_getElem?_getD,List.getElem?_eq_getElem hi]
  exact List.getElem_mem hi
 have TI:=hid (z8w (wd l i) w hv (hz _ hw))
 have x3:=hat i hi
 obtain⟨x0,x1,x2⟩:=h.three
 have hlt:=h.lt
 have ix0:(0:Int)≤(i:Int):=by omega
 have ix1:(i:Int) < (l.length:Int):=by omega
 have HN:=hid hn
 unfold maxLen at hm
 clear h hat hw hz hn hv
 generalize wd l i=t at *
 go_enter Tryz.func174,Tryz.ntmps174
 go_wp2_with fail
 refine TI.out.mono ?_
 rintro e1 w1 ⟨n',rfl,-,hq,f1⟩
 obtain rfl:n'=n:=hq n HN.out
 have F1:=hid f1
 clear f1 hq x0 x1 x2 x3
 go_wp2
 go_ret
 exact⟨rfl,F1.out⟩
theorem z1w.setW{w:World}{base o T i:Nat}{v:Value}{l:List Ent}{cs:List Value}(h:z1w w base v l)(hw:Whole w o T cs)(hT:T≠45∧T≠9∧T≠86∧T≠91)(u:Value):z1w (w.setCell ⟨o,i,none⟩ u) base v l:=by
 obtain⟨rs,hl,hi,ho⟩:=h
 refine⟨rs,hl,fun j e he=>?_,z22 _ ho (z9k ho hw hT.1)⟩
 obtain⟨cs',hcs,A1,c1,A2,c2,A3,c3,rfl,o1,o2,o3⟩:=hi j e he
 exact⟨_,hcs,A1,c1,A2,c2,A3,c3,rfl,z22 _ o1 (z9k o1 hw hT.2.1),z22 _ o2 (z9k o2 hw hT.2.2.1),z22 _ o3 (z9k o3 hw hT.2.2.2)⟩
theorem Dr.off{g B0:Nat}{sv:Value}{now:Int}{lv:Value}{l:List ByteArray}{s:List Ent}{w:World}(h:Dr g B0 sv now lv l s w):g∉z2l sv:=by
 intro hm
 obtain⟨rs,-,-,ho⟩:=h.e
 have hn:=z9k ho h.d (by decide)
 unfold z2l at hm
 split at hm
 ·rename_i k hk
  simp at hm
  subst hm
  exact hn rfl
 ·cases hm
theorem Dr.low{g B0:Nat}{sv:Value}{now:Int}{lv:Value}{l:List ByteArray}{s:List Ent}{w:World}(h:Dr g B0 sv now lv l s w):∀k,k∈g :: z2l sv→B0≤k∧k < w.heap.size:=fun k hk=>by
 obtain⟨rs,-,-,ho⟩:=h.e
 rcases List.mem_cons.1 hk with rfl|hk
 ·exact⟨h.gb,h.lt⟩
 ·exact⟨z1j ho hk,zey ho k hk⟩
theorem Dr.rowOff{g B0:Nat}{sv:Value}{now:Int}{lv:Value}{l:List ByteArray}{s:List Ent}{w:World}(h:Dr g B0 sv now lv l s w){base T size n:Nat}{v:Value}{xs:List Value}(ho:w.ownsRow base T size v n xs)(h1:117≠T)(h2:T≠45):∀k,v.ownBlock=some k→k∉g :: z2l sv:=fun k hk hm=>by
 obtain⟨rs,-,-,ho2⟩:=h.e
 rcases List.mem_cons.1 hm with rfl|hm
 ·exact z9k ho h.d h1 hk
 ·exact z4a ho ho2 h2 k hk hm
theorem Dr.repO{g B0:Nat}{sv:Value}{now:Int}{lv:Value}{l:List ByteArray}{s:List Ent}{w w1:World}(h:Dr g B0 sv now lv l s w){base:Nat}{v:Value}{r:Rep}(hr:z1f w base v r)(k:Fr (g :: z2l sv) w w1):z1f w1 base v r:=by
 obtain⟨h0,u,rfl,ho⟩:=hr
 exact⟨h0,u,rfl,z0n ho k (h.rowOff ho (by decide) (by decide))⟩
theorem z1w.set4W{w:World}{base o:Nat}{v:Value}{l:List Ent}{cs:List Value}(h:z1w w base v l)(hw:Whole w o 27 cs)(a b c d:Value):z1w (set4 w o a b c d) base v l:=
 ((((h.setW (i:=0) hw (by decide) a).setW (i:=1) (hw.set_ 0 a) (by decide) b).setW (i:=2) ((hw.set_ 0 a).set_ 1 b) (by decide) c).setW (i:=3) (((hw.set_ 0 a).set_ 1 b).set_ 2 c) (by decide) d)
theorem Dr.set4W{g B0 o:Nat}{sv:Value}{now:Int}{lv:Value}{l:List ByteArray}{s:List Ent}{w:World}{cs:List Value}(h:Dr g B0 sv now lv l s w)(hw:Whole w o 27 cs)(hb:B0≤o)(a b c d:Value):Dr g B0 sv now lv l s (set4 w o a b c d):=by
 have hne:g≠o:=h.d.ne_ hw (by decide)
 have hf:Fr [o] w (set4 w o a b c d):=((((Fr.refl [o] w).setCell (p:=⟨o,0,none⟩) (.inl (.head _)) a).setCell (p:=⟨o,1,none⟩) (.inl (.head _)) b).setCell (p:=⟨o,2,none⟩) (.inl (.head _)) c).setCell (p:=⟨o,3,none⟩) (.inl (.head _)) d
 exact⟨h.d.fr hf (by simpa using hne),h.e.set4W hw _ _ _ _,h.l.fr hf h.bz (fun k hk=>by simp at hk;subst hk;exact hb),h.gb⟩
def PutD(g B0:Nat)(sv:Value)(now:Int)(lv:Value)(l:List ByteArray)(s':List Ent)(c:Int)(w:World)(e:Ending)(w':World):Prop:=
 e=.returned (.int .i64 c)∧Fr (g :: z2l sv) w w'∧∃sv',Whole w' g 117 [sv',.int .i64 now,lv]∧(c=0→Dr g B0 sv' now lv l s' w')
theorem zd2{S:List Nat}{g:Nat}{a b:World}(h:Fr S a b):Fr (g :: S) a b:=h.more (fun k hk=>.inl (.tail _ hk))
theorem z9o(g B0:Nat)(sv:Value)(now:Int)(lv:Value)(l:List ByteArray)(s:List Ent)(k:ByteArray)(x:Itm)(xv:Value)(u:Int)(w:World)(hr:rises (ltK Ent.key) s=true)(hl:s.length≤1000)(hsx:x.Small)(h:Dr g B0 sv now lv l s w)(hx:z0l w B0 xv x) :
  Calls prog 167 #[.pointer (some ⟨g,0,none⟩),.string k,xv,.int .i64 u] w (PutD g B0 sv now lv l (z5l s now k x u) (z1e s now k x u) w):=by
 have RW:=hid (fun W (hW:Fr [] w W)=>zaw s sv now k x xv u B0 W hr hl hsx (h.e.fr hW) (hx.go hW) (Nat.le_trans h.bz hW.size))
 obtain⟨X1,x1,X2,x2,X3,x3,rfl⟩:=hx.form
 have F0:=hid ((Fr.refl [] w).alloc (.cells #[.int .i64 x.kind,.string x.text,.slice X1 x.list.length x1,.slice X2 x.pairs.length x2,.slice X3 x.scores.length x3] 43))
 have W0:=hid (Whole.new w 43 [.int .i64 x.kind,.string x.text,.slice X1 x.list.length x1,.slice X2 x.pairs.length x2,.slice X3 x.scores.length x3])
 have H:=hid h
 have hoff:=h.off
 have hlow:=h.low
 have hwz:w.heap.size∉z2l sv:=fun hm=>by have:=(hlow _ (.tail _ hm)).2;omega
 have OFF:=hid hoff
 have OFZ:=hid hwz
 have hlt:=h.lt
 have hbz:=h.bz
 obtain⟨SA,sc,rfl⟩:=h.sform
 obtain⟨d0,d1,d2⟩:=(h.go F0.out).three
 obtain⟨a0,a1,a2,a3,a4⟩:=five W0.out
 clear d2 h hx hr hsx hoff hlow hwz
 generalize z5l s now k x u=s' at *
 generalize hpc:z1e s now k x u=c at *
 clear hpc
 by_cases hc:c=0
 ·subst hc
  go_enter Tryz.func167,Tryz.ntmps167
  go_wp2
  go_region_held3 (fun wx=>wx.cell? ⟨g,0,none⟩=some (.slice SA s.length sc)∧wx.cell? ⟨g,1,none⟩=some (.int .i64 now)∧wx.cell? ⟨w.heap.size,0,none⟩=some (.int .i64 x.kind)∧wx.cell? ⟨w.heap.size,1,none⟩=some (.string x.text)∧wx.cell? ⟨w.heap.size,2,none⟩=some (.slice X1 x.list.length x1)∧wx.cell? ⟨w.heap.size,3,none⟩=some (.slice X2 x.pairs.length x2)∧wx.cell? ⟨w.heap.size,4,none⟩=some (.slice X3 x.scores.length x3)) (go_keep) ((go_at_call 108;refine(RW.out _ F0.out.drew).mono ?_;rintro e1 w1 ⟨uv,rfl,he,f1⟩;have F1:=hid (F0.out.up.trans f1.dr);have W1:=hid (W0.out.fr f1.dr OFZ.out);have W2:=hid ((H.out.go F0.out).d.fr f1.dr OFF.out);obtain⟨UA,uc,rfl⟩:=he.form;have HE:=hid he;clear he f1 d0 d1 a0 a1 a2 a3 a4;obtain⟨a0,a1,a2,a3,a4⟩:=five W1.out;have d0:=W2.out.cell 0;have d1:=W2.out.cell 1))
  have D1:=W2.out
  have hlt2:=D1.lt
  obtain⟨y0,y1,y2⟩:w1.cell? ⟨g,0,none⟩=some (.slice SA s.length sc)∧w1.cell? ⟨g,1,none⟩=some (.int .i64 now)∧w1.cell? ⟨g,2,none⟩=some lv:=⟨D1.cell 0,D1.cell 1,D1.cell 2⟩
  have y3:=D1.frozen 0
  clear d0 d1 a0 a1 a2 a3 a4
  go_wp2
  go_ret
  refine⟨rfl,(zd2 F1.out).setCell (p:=⟨g,0,none⟩) (.inl (.head _)) _,_,D1.set_ 0 _,fun _=>⟨D1.set_ 0 _,HE.out.setW D1 (by decide) _,?_,H.out.gb⟩⟩
  exact H.out.l.fr ((zd2 F1.out).setCell (p:=⟨g,0,none⟩) (.inl (.head _)) _) hbz (fun j hj=>(H.out.low j hj).1)
 ·have q1:(c==0)=false:=by simpa using hc
  have HC:=hid hc
  clear hc
  go_enter Tryz.func167,Tryz.ntmps167
  go_wp2
  go_region_held3 (fun wx=>wx.cell? ⟨g,0,none⟩=some (.slice SA s.length sc)∧wx.cell? ⟨g,1,none⟩=some (.int .i64 now)∧wx.cell? ⟨w.heap.size,0,none⟩=some (.int .i64 x.kind)∧wx.cell? ⟨w.heap.size,1,none⟩=some (.string x.text)∧wx.cell? ⟨w.heap.size,2,none⟩=some (.slice X1 x.list.length x1)∧wx.cell? ⟨w.heap.size,3,none⟩=some (.slice X2 x.pairs.length x2)∧wx.cell? ⟨w.heap.size,4,none⟩=some (.slice X3 x.scores.length x3)) (go_keep) ((go_at_call 108;refine(RW.out _ F0.out.drew).mono ?_;rintro e1 w1 ⟨uv,rfl,he,f1⟩;have F1:=hid (F0.out.up.trans f1.dr);have W1:=hid (W0.out.fr f1.dr OFZ.out);have W2:=hid ((H.out.go F0.out).d.fr f1.dr OFF.out);obtain⟨UA,uc,rfl⟩:=he.form;have HE:=hid he;clear he f1 d0 d1 a0 a1 a2 a3 a4;obtain⟨a0,a1,a2,a3,a4⟩:=five W1.out;have d0:=W2.out.cell 0;have d1:=W2.out.cell 1))
  clear d0 d1 a0 a1 a2 a3 a4
  go_wp2
  go_ret
  exact⟨rfl,zd2 F1.out,_,W2.out,fun h=>absurd h HC.out⟩
theorem zgg(g B0:Nat)(sv:Value)(now:Int)(lv:Value)(l:List ByteArray)(s:List Ent)(x:Itm)(xv:Value)(w:World)(hr:rises (ltK Ent.key) s=true)(hl:s.length≤1000)(hn:0 < l.length)(hsx:x.Small)(h:Dr g B0 sv now lv l s w)(hx:z0l w B0 xv x) :
  Calls prog 183 #[.pointer (some ⟨g,0,none⟩),xv] w (PutD g B0 sv now lv l (z5l s now (wd l 0) x (z00 s now (wd l 0)).til) (z1e s now (wd l 0) x (z00 s now (wd l 0)).til) w):=by
 have LK:=hid (fun W (hW:Fr [] w W)=>z1g s sv now (wd l 0) W B0 hr (by omega) (h.e.fr hW))
 have PT:=hid (fun W (hW:Fr [] w W)=>z9o g B0 sv now lv l s (wd l 0) x xv (z00 s now (wd l 0)).til W hr hl hsx (h.go hW) (hx.go hW))
 obtain⟨X1,x1,X2,x2,X3,x3,rfl⟩:=hx.form
 have F0:=hid ((Fr.refl [] w).alloc (.cells #[.int .i64 x.kind,.string x.text,.slice X1 x.list.length x1,.slice X2 x.pairs.length x2,.slice X3 x.scores.length x3] 43))
 have W0:=hid (Whole.new w 43 [.int .i64 x.kind,.string x.text,.slice X1 x.list.length x1,.slice X2 x.pairs.length x2,.slice X3 x.scores.length x3])
 have F1:=hid (F0.out.alloc (.cells #[.string ⟨#[]⟩,.int .i64 0,.string ⟨#[]⟩,.slice none 0 0,.slice none 0 0,.slice none 0 0,.int .i64 0] 45))
 have V1:=hid (z3s w (.cells #[.int .i64 x.kind,.string x.text,.slice X1 x.list.length x1,.slice X2 x.pairs.length x2,.slice X3 x.scores.length x3] 43) 45 [.string ⟨#[]⟩,.int .i64 0,.string ⟨#[]⟩,.slice none 0 0,.slice none 0 0,.slice none 0 0,.int .i64 0])
 have H:=hid h
 have hlt:=h.lt
 have hbz:=h.bz
 obtain⟨SA,sc,rfl⟩:=h.sform
 obtain⟨LA,lc,rfl⟩:=h.lform
 obtain⟨b,off,rfl,hb,hc,hm,hat⟩:=h.word hn
 have hw0:=hat 0 hn
 rw[Nat.add_zero] at hw0
 have HW0:=hid hw0
 have DG:=hid (fun W (hW:Fr [] w W)=>(h.go hW).three)
 unfold maxLen at hm
 clear h hx hr hsx hat hw0
 have hn1:¬g=w.heap.size+1:=by omega
 have hn2:¬w.heap.size+1=g:=by omega
 have hn3:¬b=w.heap.size+1:=by omega
 have hn4:¬w.heap.size+1=b:=by omega
 have ix1:(0:Int) < (l.length:Int):=by omega
 generalize z5l s now (wd l 0) x (z00 s now (wd l 0)).til=s' at *
 generalize hpc:z1e s now (wd l 0) x (z00 s now (wd l 0)).til=c at *
 clear hpc
 generalize z00 s now (wd l 0)=y at *
 generalize z1a s now (wd l 0)=bb at *
 generalize wd l 0=k at *
 obtain⟨d0,d1,d2⟩:=DG.out _ F0.out
 obtain⟨d3,d4,d5⟩:=DG.out _ F1.out
 have d6:=F0.out.cell HW0.out (by simp)
 have d7:=F1.out.cell HW0.out (by simp)
 go_enter Tryz.func183,Tryz.ntmps183
 go_upto_region 1 with fail
 go_cut [5,6] (fun pb _ wx=>z87 B0 y (w.alloc (.cells #[.int .i64 x.kind,.string x.text,.slice X1 x.list.length x1,.slice X2 x.pairs.length x2,.slice X3 x.scores.length x3] 43)) pb wx)
 case first=>
  go_region_held3 (fun wx=>wx.cell? ⟨g,0,none⟩=some (.slice SA s.length sc)∧wx.cell? ⟨g,1,none⟩=some (.int .i64 now)∧wx.cell? ⟨g,2,none⟩=some (.slice (some ⟨b,off,none⟩) l.length lc)∧wx.cell? ⟨b,off,none⟩=some (.string k)) (go_keep) ((go_at_call 105;first|(refine(LK.out _ F0.out.drew).mono ?_;rintro e1 w1 ⟨A1,c1,A2,c2,A3,c3,rfl,hc,f1⟩;have F2:=hid (z01 f1);have F3:=hid (F0.out.trans F2.out);have HC:=hid hc;obtain⟨z0,z1,z2⟩:=DG.out _ F3.out;have z3:=F3.out.cell HW0.out (by simp);clear f1 hc)|(refine(LK.out _ F1.out.drew).mono ?_;rintro e1 w1 ⟨A1,c1,A2,c2,A3,c3,rfl,hc,f1⟩;have F2:=hid (z2g (z01 f1));have F3:=hid (F1.out.trans (z01 f1));have HC:=hid hc;have V2:=hid (V1.out.fr (z01 f1) (by simp));obtain⟨z0,z1,z2⟩:=DG.out _ F3.out;have z3:=F3.out.cell HW0.out (by simp);have y7:=seven V2.out;have z7:=z3p V2.out;clear f1 hc)))
  all_goals
   go_wp2
   go_meet
   case rel=>first|with_reducible exact z87.new HC.out F2.out|exact z87.put HC.out F2.out (by simp) V2.out
 clear d0 d1 d2 d3 d4 d5 d6 d7
 obtain⟨gb,A1,c1,A2,c2,A3,c3,rfl,hgb,hw,hc,hf⟩:=hcut
 have F2:=hid (F0.out.trans hf)
 have VB:=hid hw
 have W2:=hid (W0.out.fr hf (by simp))
 have hgb2:w.heap.size < gb:=by simp at hgb;omega
 clear hf hw hc hgb
 obtain⟨d0,d1,d2⟩:=DG.out _ F2.out
 have d3:=F2.out.cell HW0.out (by simp)
 obtain⟨a0,a1,a2,a3,a4⟩:=five W2.out
 have a5:=VB.out.cell 6
 go_wp2
 go_region_held3 (fun wx=>wx.cell? ⟨g,2,none⟩=some (.slice (some ⟨b,off,none⟩) l.length lc)∧wx.cell? ⟨b,off,none⟩=some (.string k)∧wx.cell? ⟨gb,6,none⟩=some (.int .i64 y.til)∧wx.cell? ⟨w.heap.size,0,none⟩=some (.int .i64 x.kind)∧wx.cell? ⟨w.heap.size,1,none⟩=some (.string x.text)∧wx.cell? ⟨w.heap.size,2,none⟩=some (.slice X1 x.list.length x1)∧wx.cell? ⟨w.heap.size,3,none⟩=some (.slice X2 x.pairs.length x2)∧wx.cell? ⟨w.heap.size,4,none⟩=some (.slice X3 x.scores.length x3)) (go_keep) ((go_at_call 167;refine(PT.out _ F2.out.drew).mono ?_;rintro e1 w1 ⟨rfl,f1,sv',hw',hd⟩;have N1:w.heap.size∉g :: z2l (.slice SA s.length sc):=fun hm=>(by have:=(H.out.low _ hm).2;omega);have N2:gb∉g :: z2l (.slice SA s.length sc):=fun hm=>(by have:=(H.out.low _ hm).2;omega);have N3:b∉g :: z2l (.slice SA s.length sc):=fun hm=>(by have:=(H.out.low _ hm).1;omega);have W3:=hid (W2.out.fr f1.dr N1);have VB3:=hid (VB.out.fr f1.dr N2);have G3:=hid hw';have HD:=hid hd;have FT:=hid (F2.out.up.trans f1.dr);have e3:=f1.dr.cell d3 N3;clear f1 hw' hd N1 N2 N3 d0 d1 d2 d3 a0 a1 a2 a3 a4 a5;obtain⟨a0,a1,a2,a3,a4⟩:=five W3.out;have a5:=VB3.out.cell 6;have d2:=G3.out.cell 2))
 go_wp2
 go_ret
 exact⟨rfl,FT.out,sv',G3.out,HD.out⟩
def ChD(g B0 bb:Nat)(sv:Value)(now:Int)(lv:Value)(l:List ByteArray)(p:List Ent×Rep)(w:World)(e:Ending)(w':World):Prop:=
 ∃u,e=.returned u∧z1f w' bb u p.2∧Fr (g :: z2l sv) w w'∧(p.2.kind≠2→∃sv',Dr g B0 sv' now lv l p.1 w')
theorem zjk(g B0 bb:Nat)(sv:Value)(now:Int)(lv:Value)(l:List ByteArray)(s:List Ent)(x:Itm)(xv:Value)(r:Rep)(rv:Value)(c:Int)(w:World)(hr:rises (ltK Ent.key) s=true)(hl:s.length≤1000)(hn:0 < l.length)(hsx:x.Small)(h:Dr g B0 sv now lv l s w)(hx:z0l w B0 xv x)(hrp:z1f w bb rv r) :
  Calls prog 170 #[.pointer (some ⟨g,0,none⟩),xv,rv,.int .i64 c] w (ChD g B0 bb sv now lv l (fin s now (wd l 0) x (z00 s now (wd l 0)).til true false c r) w):=by
 have KP:=hid (fun W (hW:Fr [] w W)=>zgg g B0 sv now lv l s x xv W hr hl hn hsx (h.go hW) (hx.go hW))
 have OR:=hid (fun W c (hq:z1f W bb rv r)=>z4r r rv c false bb W hq)
 have HR:=hid hrp
 obtain⟨X1,x1,X2,x2,X3,x3,rfl⟩:=hx.form
 obtain⟨R,rc,rfl⟩:=hrp.form
 have F0:=hid ((((Fr.refl [] w).alloc (.cells #[.int .i64 x.kind,.string x.text,.slice X1 x.list.length x1,.slice X2 x.pairs.length x2,.slice X3 x.scores.length x3] 43)).alloc (.cells #[.int .i64 r.kind,.string r.text,.int .i64 r.n,.slice R r.list.length rc] 27)).alloc (.cells #[.int .i64 0,.string ⟨#[]⟩,.int .i64 0,.slice none 0 0] 27))
 have W0:=hid (Whole.alloc (Whole.alloc (Whole.new w 43 [.int .i64 x.kind,.string x.text,.slice X1 x.list.length x1,.slice X2 x.pairs.length x2,.slice X3 x.scores.length x3]) (.cells #[.int .i64 r.kind,.string r.text,.int .i64 r.n,.slice R r.list.length rc] 27)) (.cells #[.int .i64 0,.string ⟨#[]⟩,.int .i64 0,.slice none 0 0] 27))
 have R0:=hid (Whole.alloc (z3s w (.cells #[.int .i64 x.kind,.string x.text,.slice X1 x.list.length x1,.slice X2 x.pairs.length x2,.slice X3 x.scores.length x3] 43) 27 [.int .i64 r.kind,.string r.text,.int .i64 r.n,.slice R r.list.length rc]) (.cells #[.int .i64 0,.string ⟨#[]⟩,.int .i64 0,.slice none 0 0] 27))
 have Q0:=hid (show Whole (((w.alloc (.cells #[.int .i64 x.kind,.string x.text,.slice X1 x.list.length x1,.slice X2 x.pairs.length x2,.slice X3 x.scores.length x3] 43)).alloc (.cells #[.int .i64 r.kind,.string r.text,.int .i64 r.n,.slice R r.list.length rc] 27)).alloc (.cells #[.int .i64 0,.string ⟨#[]⟩,.int .i64 0,.slice none 0 0] 27)) (w.heap.size+1+1) 27 [.int .i64 0,.string ⟨#[]⟩,.int .i64 0,.slice none 0 0] from by
  have:=z3s (w.alloc (.cells #[.int .i64 x.kind,.string x.text,.slice X1 x.list.length x1,.slice X2 x.pairs.length x2,.slice X3 x.scores.length x3] 43)) (.cells #[.int .i64 r.kind,.string r.text,.int .i64 r.n,.slice R r.list.length rc] 27) 27 [.int .i64 0,.string ⟨#[]⟩,.int .i64 0,.slice none 0 0]
  rwa[show(w.alloc (.cells #[.int .i64 x.kind,.string x.text,.slice X1 x.list.length x1,.slice X2 x.pairs.length x2,.slice X3 x.scores.length x3] 43)).heap.size=w.heap.size+1 from by simp] at this)
 have H:=hid h
 have hlt:=h.lt
 have hbz:=h.bz
 have EF:=hid (show fin s now (wd l 0) x (z00 s now (wd l 0)).til true false c r=if c=0 then (if z1e s now (wd l 0) x (z00 s now (wd l 0)).til=0 then (z5l s now (wd l 0) x (z00 s now (wd l 0)).til,r) else (s,z78 (z1e s now (wd l 0) x (z00 s now (wd l 0)).til))) else (s,z78 c) from by
  unfold fin
  rw[if_pos rfl]
  congr 1
  exact if_neg (fun h=>by cases h.2))
 clear h hx hrp hr hsx
 rw[EF.out]
 clear EF
 generalize z5l s now (wd l 0) x (z00 s now (wd l 0)).til=s' at *
 generalize hpc:z1e s now (wd l 0) x (z00 s now (wd l 0)).til=pc at *
 clear hpc
 by_cases hc:c=0
 ·subst hc
  rw[if_pos rfl]
  by_cases hp:pc=0
  ·subst hp
   rw[if_pos rfl]
   go_enter Tryz.func170,Tryz.ntmps170
   obtain⟨a0,a1,a2,a3,a4⟩:=five W0.out
   go_wp2_with fail
   refine(KP.out _ F0.out).mono ?_
   rintro e1 w1 ⟨rfl,f1,sv',hw',hd⟩
   have R1:=hid (R0.out.fr f1 (fun hm=>by have:=(H.out.low _ hm).2;omega))
   have Q1:=hid (Q0.out.fr f1 (fun hm=>by have:=(H.out.low _ hm).2;omega))
   have HRQ:=hid (((H.out.go F0.out).repO (HR.out.fr F0.out) f1))
   have FT:=hid (F0.out.up.trans f1)
   have HD:=hid hd
   clear f1 hw' hd a0 a1 a2 a3 a4
   obtain⟨r0,r1,r2,r3⟩:=four R1.out
   go_wp2_with fail
   have EO:=hid (show orV (.agg #[.int .i64 r.kind,.string r.text,.int .i64 r.n,.slice R r.list.length rc]) 0 false=.agg #[.int .i64 r.kind,.string r.text,.int .i64 r.n,.slice R r.list.length rc] from rfl)
   refine(OR.out _ _ HRQ.out).mono ?_
   rintro e2 w2 ⟨rfl,f2⟩
   rw[EO.out]
   have Q2:=hid (Q1.out.fr f2 (by simp))
   have F2:=hid f2
   clear f2 r0 r1 r2 r3
   obtain⟨y0,y1,y2,y3⟩:=four Q2.out
   obtain⟨z0,z1,z2,z3⟩:=z0w Q2.out
   go_wp2
   refine bodyPost_ret (v:=.agg #[.int .i64 r.kind,.string r.text,.int .i64 r.n,.slice R r.list.length rc]) (by simp[results,Tryz.results170,go_sem,y0,y1,y2,y3]) rfl ?_
   have FF:=z1o (FT.out.trans F2.out.up) (show w.heap.size≤w.heap.size+1+1 by omega) (.int .i64 r.kind) (.string r.text) (.int .i64 r.n) (.slice R r.list.length rc)
   exact⟨_,rfl,H.out.repO HR.out FF,FF,fun _=>⟨sv',((HD.out (by simp)).go F2.out).set4W Q2.out (by omega) _ _ _ _⟩⟩
  ·rw[if_neg hp]
   have EO:=hid (show orV (.agg #[.int .i64 r.kind,.string r.text,.int .i64 r.n,.slice R r.list.length rc]) pc false=.agg #[.int .i64 2,.string ⟨#[]⟩,.int .i64 pc,.slice none 0 0] from by unfold orV;rw[if_neg hp,if_neg (fun h=>by cases h.2)])
   clear hp
   go_enter Tryz.func170,Tryz.ntmps170
   obtain⟨a0,a1,a2,a3,a4⟩:=five W0.out
   go_wp2_with fail
   refine(KP.out _ F0.out).mono ?_
   rintro e1 w1 ⟨rfl,f1,sv',hw',hd⟩
   have R1:=hid (R0.out.fr f1 (fun hm=>by have:=(H.out.low _ hm).2;omega))
   have Q1:=hid (Q0.out.fr f1 (fun hm=>by have:=(H.out.low _ hm).2;omega))
   have HRQ:=hid (((H.out.go F0.out).repO (HR.out.fr F0.out) f1))
   have FT:=hid (F0.out.up.trans f1)
   have HD:=hid hd
   clear f1 hw' hd a0 a1 a2 a3 a4
   obtain⟨r0,r1,r2,r3⟩:=four R1.out
   go_wp2_with fail
   refine(OR.out _ _ HRQ.out).mono ?_
   rintro e2 w2 ⟨rfl,f2⟩
   rw[EO.out]
   have Q2:=hid (Q1.out.fr f2 (by simp))
   have F2:=hid f2
   clear f2 r0 r1 r2 r3
   obtain⟨y0,y1,y2,y3⟩:=four Q2.out
   obtain⟨z0,z1,z2,z3⟩:=z0w Q2.out
   go_wp2
   refine bodyPost_ret (v:=.agg #[.int .i64 2,.string ⟨#[]⟩,.int .i64 pc,.slice none 0 0]) (by simp[results,Tryz.results170,go_sem,y0,y1,y2,y3]) rfl ?_
   exact⟨_,rfl,z1f.bare _ _ _ _ _,z1o (FT.out.trans F2.out.up) (show w.heap.size≤w.heap.size+1+1 by omega) _ _ _ _,fun h=>absurd rfl h⟩
 ·have q0:(c==0)=false:=by simpa using hc
  have EO:=hid (show orV (.agg #[.int .i64 r.kind,.string r.text,.int .i64 r.n,.slice R r.list.length rc]) c false=.agg #[.int .i64 2,.string ⟨#[]⟩,.int .i64 c,.slice none 0 0] from by unfold orV;rw[if_neg hc,if_neg (fun h=>by cases h.2)])
  rw[if_neg hc]
  clear hc
  go_enter Tryz.func170,Tryz.ntmps170
  obtain⟨r0,r1,r2,r3⟩:=four R0.out
  go_wp2_with fail
  refine(OR.out _ _ (HR.out.fr F0.out)).mono ?_
  rintro e2 w2 ⟨rfl,f2⟩
  rw[EO.out]
  have Q2:=hid (Q0.out.fr f2 (by simp))
  have F2:=hid (F0.out.trans f2)
  clear f2 r0 r1 r2 r3
  obtain⟨y0,y1,y2,y3⟩:=four Q2.out
  obtain⟨z0,z1,z2,z3⟩:=z0w Q2.out
  go_wp2
  refine bodyPost_ret (v:=.agg #[.int .i64 2,.string ⟨#[]⟩,.int .i64 c,.slice none 0 0]) (by simp[results,Tryz.results170,go_sem,y0,y1,y2,y3]) rfl ?_
  exact⟨_,rfl,z1f.bare _ _ _ _ _,(z1o F2.out (show w.heap.size≤w.heap.size+1+1 by omega) _ _ _ _).up,fun h=>absurd rfl h⟩
theorem ChD.fin4{g B0:Nat}{sv:Value}{now:Int}{lv:Value}{l:List ByteArray}{s:List Ent}{r:Rep}{w w4:World}{A:Option Addr}{k:Nat}{cs:List Value}(hc:z1f w4 (w.heap.size+1) (.agg #[.int .i64 r.kind,.string r.text,.int .i64 r.n,.slice A r.list.length k]) r)(hf:Fr (g :: z2l sv) w w4)(hq:Whole w4 w.heap.size 27 cs)(hB:B0≤w.heap.size)(hd:r.kind≠2→∃sv',Dr g B0 sv' now lv l s w4) :
  ChD g B0 B0 sv now lv l (s,r) w (.returned (.agg #[.int .i64 r.kind,.string r.text,.int .i64 r.n,.slice A r.list.length k])) (set4 w4 w.heap.size (.int .i64 r.kind) (.string r.text) (.int .i64 r.n) (.slice A r.list.length k)):=
 ⟨_,rfl,(hc.set4 (Nat.lt_succ_self _) _ _ _ _).base (by omega),z1o hf (Nat.le_refl _) _ _ _ _,fun h=>(hd h).imp fun _ k=>k.set4W hq hB _ _ _ _⟩
structure Cw(g B0:Nat)(sv:Value)(now:Int)(lv:Value)(l:List ByteArray)(s:List Ent)(gx:Nat)(cx:List Value)(x:Itm)(w wr:World):Prop where
 q:Whole wr w.heap.size 27 [.int .i64 0,.string ⟨#[]⟩,.int .i64 0,.slice none 0 0]
 b:Whole wr gx 43 cx
 i:z0l wr B0 (.agg cx.toArray) x
 d:Dr g B0 sv now lv l s wr
 f:Fr [] w wr
 gx:w.heap.size < gx
section
variable {g B0 gx:Nat} {sv:Value} {now:Int} {lv:Value} {l:List ByteArray} {s:List Ent} {cx:List Value} {x:Itm} {w wr w1:World}
theorem Cw.go(h:Cw g B0 sv now lv l s gx cx x w wr)(k:Fr [] wr w1):Cw g B0 sv now lv l s gx cx x w w1:=
 ⟨h.q.fr k (by simp),h.b.fr k (by simp),h.i.go k,h.d.go k,h.f.trans k,h.gx⟩
theorem Cw.drew(h:Cw g B0 sv now lv l s gx cx x w wr):Cw g B0 sv now lv l s gx cx x w wr.drew:=h.go (Fr.refl [] _).drew
end
end Go.Proofs.YtamgdmiopinidaaGreatDoor
