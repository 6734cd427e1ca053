/- Contracts that the proof of E3 uses. No condition beyond those in each theorem. -/
import Derived.Test.YtamgdmiopinidaaGreatDoorSlE38
import Derived.Test.YtamgdmiopinidaaGreatDoorSlE310
import Derived.Sort.KeysCollected
set_option linter.unusedVariables false
set_option linter.unusedSimpArgs false
set_option maxHeartbeats 8000000
set_option maxRecDepth 100000
namespace Go.Proofs.YtamgdmiopinidaaGreatDoor
open Lib (hid)
open Tryz (prog)
open Go.RowKit
theorem zfo{x:Itm}(h:z02 3 x=0):rises ltS x.list=true∧x.list.length≤24:=by
 have k:=z18 h
 have hm:=k.le24
 refine⟨?_,by unfold many at hm;omega⟩
 by_cases h0:x.kind=0
 ·have:=k.none h0
  unfold many at this
  rw[List.eq_nil_of_length_eq_zero (show x.list.length=0 by omega)]
  rfl
 ·have hk:x.kind=3:=by
   rcases k.kind with e|e
   ·exact absurd e h0
   ·exact e
  have hc:=k.some h0
  unfold z0d at hc
  rw[hk] at hc
  rw[if_neg (by decide)] at hc
  split at hc
  ·cases hc
  ·rw[if_neg (by decide)] at hc
   split at hc
   ·cases hc
   ·split at hc
    ·cases hc
    ·split at hc
     ·cases hc
     ·rename_i hn
      rcases hr:rises ltS x.list with _|_
      ·exact absurd (.inl ⟨rfl,hr⟩) hn
      ·rfl
theorem z7w(x:Itm)(v:Value)(w:World)(B:Nat)(hs:x.Small)(hB:B≤w.heap.size)(h:z0q w B v x) :
  Calls prog 232 #[v] w fun e w'=>e=.returned (.int .i64 (z02 3 x))∧Fr [] w w':=by
 have M:=hid (fun W (hf:Fr [] w W)=>zhs x 3 v W B hs (Nat.le_trans hB hf.size) (h.fr hf hB (by simp)))
 obtain⟨A1,c1,A2,c2,A3,c3,rfl,h1,h2,h3⟩:=h
 have F1:Fr [] w (w.alloc (.cells #[.int .i64 x.kind,.string x.text,.slice A1 x.list.length c1,.slice A2 x.pairs.length c2,.slice A3 x.scores.length c3] 43)):=(Fr.refl [] w).alloc _
 go_enter Tryz.func232,Tryz.ntmps232
 go_wp2_with fail
 refine(M.out _ F1).mono ?_
 rintro e w1 ⟨rfl,f1⟩
 go_wp2
 go_ret
 exact⟨rfl,F1.trans f1⟩
theorem zl5{S:List Nat}{w wr:World}{o:Nat}(h:Fr S w wr)(ho:w.heap.size≤o)(a b c d e:Value):Fr S w (zr4 wr o a b c d e):=
 ((((h.setCell (p:=⟨o,0,none⟩) (.inr ho) _).setCell (p:=⟨o,1,none⟩) (.inr ho) _).setCell (p:=⟨o,2,none⟩) (.inr ho) _).setCell (p:=⟨o,3,none⟩) (.inr ho) _).setCell (p:=⟨o,4,none⟩) (.inr ho) _
def zp3(y:Itm)(base:Nat)(v:Value)(w:World)(e:Ending)(w':World):Prop:=∃u,e=.returned u∧z0l w' base u y∧Fr (z2l v) w w'
theorem zgf(l:List ByteArray)(base:Nat)(v:Value)(w:World)(hl:l.length≤281474976710656)(ht:∀s∈l,s.size≤281474976710656)(hb:base≤w.heap.size)(h:w.ownsRow base 9 1 v l.length (z03 l)) :
  Calls prog 233 #[v] w (zp3 (ofK 3 (z8e l)) base v w):=by
 have hul:=za3 l
 have hut:∀s∈z8e l,s.size≤281474976710656:=fun s hs=>ht s (z81.1 hs)
 have hsm:(zbh 3 (z8e l)).Small:=zhx (by decide) (by omega) hut
 have F0:=hid ((Fr.refl [] w).alloc (.cells #[.int .i64 0,.string ⟨#[]⟩,.slice none 0 0,.slice none 0 0,.slice none 0 0] 43))
 have B0:=hid (Whole.new w 43 [.int .i64 0,.string ⟨#[]⟩,.slice none 0 0,.slice none 0 0,.slice none 0 0])
 have HO:=hid (z0n h F0.out (by simp))
 have hlt:∀k,k∈z2l v→k < w.heap.size:=fun k hk=>by
  unfold z2l at hk
  split at hk
  ·simp at hk;subst hk;exact(h.lt _ rfl).2
  ·cases hk
 have HLT:=hid hlt
 clear h hlt
 go_enter Tryz.func233,Tryz.ntmps233
 go_wp2_with fail
 refine(zgh l base v _ hl HO.out).mono ?_
 rintro e w1 ⟨rfl,ho1,g1⟩
 have f1:=z47 g1
 have F1:=hid ((F0.out.up (T:=z2l v)).step f1 (fun k hk=>.inl hk))
 have B1:=hid (B0.out.fr f1 (fun hm=>by have:=HLT.out _ hm;omega))
 have HO1:=hid (show w1.ownsRow base 9 1 v (z77 l).length (z03 (z77 l)) from by rw[z3n];exact ho1)
 clear ho1 g1 f1
 go_wp2_with fail
 refine(znp (z77 l) base v _ (by rw[z3n];exact hl) HO1.out).mono ?_
 rintro e w2 ⟨v2,rfl,ho2,g2,hbl⟩
 have f2:=z47 g2
 have F2:=hid (F1.out.step f2 (fun k hk=>.inl hk))
 have B2:=hid (B1.out.fr f2 (fun hm=>by have:=HLT.out _ hm;omega))
 have HO2:=hid (show w2.ownsRow base 9 1 v2 (z8e l).length (z03 (z8e l)) from ho2)
 obtain⟨A2,c2,rfl,-⟩:=z06 HO2.out
 clear ho2 g2 f2 hbl
 have hv2:z0q w2 w2.heap.size (.agg #[.int .i64 3,.string ⟨#[]⟩,.slice A2 (z8e l).length c2,.slice none 0 0,.slice none 0 0]) (zbh 3 (z8e l)):=⟨A2,c2,none,0,none,0,rfl,z0t HO2.out,Sl.nil _ _ _,Sl.nil _ _ _⟩
 have O:=hid (zkq (zbh 3 (z8e l)) _ w2 w2.heap.size hsm (Nat.le_refl _) hv2 (show(3:Int)≠1 by decide))
 clear hv2 hsm
 have hbs:base≤w2.heap.size:=Nat.le_trans hb F2.out.size
 have EO:=hid (show ofV (.agg #[.int .i64 3,.string ⟨#[]⟩,.slice A2 (z8e l).length c2,.slice none 0 0,.slice none 0 0]) (zbh 3 (z8e l))=if (z8e l).length=0 then .agg #[.int .i64 0,.string ⟨#[]⟩,.slice none 0 0,.slice none 0 0,.slice none 0 0] else .agg #[.int .i64 3,.string ⟨#[]⟩,.slice A2 (z8e l).length c2,.slice none 0 0,.slice none 0 0] from by
  unfold ofV
  rw[show many (zbh 3 (z8e l))=(z8e l).length from by show(z8e l).length+0+0=(z8e l).length;omega])
 have EF:=hid (show ofK 3 (z8e l)=if (z8e l).length=0 then z2r 0 else zbh 3 (z8e l) from rfl)
 rw[EO.out] at O
 clear EO
 generalize z8e l=r at *
 by_cases h0:r.length=0
 ·rw[if_pos h0] at O
  have EG:=hid (EF.out.trans (if_pos h0))
  clear h0 EF
  go_wp2_with fail
  refine O.out.mono ?_
  rintro e w3 ⟨rfl,f3⟩
  have F3:=hid (F2.out.step (T:=[]) f3 (fun k hk=>by cases hk))
  have B3:=hid (B2.out.fr f3 (by simp))
  obtain⟨a0,a1,a2,a3,a4⟩:=five B3.out
  obtain⟨b0,b2,b3,b4,b5⟩:=z10 B3.out
  go_wp2
  refine bodyPost_ret (v:=.agg #[.int .i64 0,.string ⟨#[]⟩,.slice none 0 0,.slice none 0 0,.slice none 0 0]) (by simp[results,Tryz.results233,go_sem,a0,a1,a2,a3,a4]) rfl ?_
  exact⟨_,rfl,by rw[EG.out];exact z0l.nothing _ _,zl5 F3.out (Nat.le_refl _) _ _ _ _ _⟩
 ·rw[if_neg h0] at O
  have EG:=hid (EF.out.trans (if_neg h0))
  clear h0 EF
  go_wp2_with fail
  refine O.out.mono ?_
  rintro e w3 ⟨rfl,f3⟩
  have F3:=hid (F2.out.step (T:=[]) f3 (fun k hk=>by cases hk))
  have B3:=hid (B2.out.fr f3 (by simp))
  have HO3:=hid (z0n HO2.out f3 (by simp))
  obtain⟨a0,a1,a2,a3,a4⟩:=five B3.out
  obtain⟨b0,b2,b3,b4,b5⟩:=z10 B3.out
  go_wp2
  refine bodyPost_ret (v:=.agg #[.int .i64 3,.string ⟨#[]⟩,.slice A2 r.length c2,.slice none 0 0,.slice none 0 0]) (by simp[results,Tryz.results233,go_sem,a0,a1,a2,a3,a4]) rfl ?_
  exact⟨_,rfl,by rw[EG.out];exact⟨_,_,_,rfl,zsg HO3.out B3.out (by decide) _ _ _ _ _,⟨rfl,.inl ⟨rfl,rfl⟩⟩,⟨rfl,.inl ⟨rfl,rfl⟩⟩⟩,zl5 F3.out (Nat.le_refl _) _ _ _ _ _⟩
theorem zb0(x:Itm)(v:Value)(s:ByteArray)(w:World)(B:Nat)(hs:x.Small)(hB:B≤w.heap.size)(h:z0q w B v x) :
  Calls prog 189 #[v,.string s] w fun e w'=>e=.returned (.tuple #[.bool (decide (z02 3 x=0)&&z4z x.list s),.int .i64 (z02 3 x)])∧Fr [] w w':=by
 have RD:=hid (fun W (hf:Fr [] w W)=>z7w x v W B hs (Nat.le_trans hB hf.size) (h.fr hf hB (by simp)))
 obtain⟨A1,c1,A2,c2,A3,c3,rfl,h1,h2,h3⟩:=h
 have H1:=hid h1
 have F1:Fr [] w (w.alloc (.cells #[.int .i64 x.kind,.string x.text,.slice A1 x.list.length c1,.slice A2 x.pairs.length c2,.slice A3 x.scores.length c3] 43)):=(Fr.refl [] w).alloc _
 have R1:=hid (Whole.new w 43 [.int .i64 x.kind,.string x.text,.slice A1 x.list.length c1,.slice A2 x.pairs.length c2,.slice A3 x.scores.length c3])
 obtain⟨d0,d1,d2,d3,d4⟩:=five R1.out
 have hsl:=hs.list
 clear h1 h2 h3 hs
 by_cases ha:z02 3 x=0
 ·have HA:=hid (fun W (hf:Fr [] w W)=>ze4 x.list s A1 c1 B W (zfo ha).1 hsl (Nat.le_trans hB hf.size) (H1.out.fr hf hB (by simp)))
  rw[ha] at RD ⊢
  rw[decide_eq_true rfl,Bool.true_and]
  clear ha
  generalize z4z x.list s=b at *
  go_enter Tryz.func189,Tryz.ntmps189
  go_wp2_with fail
  refine(RD.out _ F1).mono ?_
  rintro e w1 ⟨rfl,f1⟩
  have F2:=F1.trans f1
  have R2:=hid (R1.out.fr f1 (by simp))
  clear d0 d1 d2 d3 d4
  obtain⟨d0,d1,d2,d3,d4⟩:=five R2.out
  go_wp2_with fail
  refine(HA.out _ F2).mono ?_
  rintro e w2 ⟨rfl,f2⟩
  go_wp2
  go_ret2
  exact⟨rfl,F2.trans f2⟩
 ·have q2:(z02 3 x != 0)=true:=by simpa using ha
  rw[decide_eq_false ha,Bool.false_and]
  clear ha
  generalize z02 3 x=r at *
  go_enter Tryz.func189,Tryz.ntmps189
  go_wp2_with fail
  refine(RD.out _ F1).mono ?_
  rintro e w1 ⟨rfl,f1⟩
  go_wp2
  go_ret2
  exact⟨rfl,F1.trans f1⟩
theorem zre(x:ByteArray)(l:List ByteArray)(A:Option Addr)(c g B:Nat)(w:World)(hl:l.length≤281474976710656)(hB:B≤w.heap.size)(h:Sl w B 1 (.slice A l.length c) l.length (z03 l))(hg:w.cell? ⟨g,0,none⟩=some (.slice A l.length c)) :
  Calls prog 234 (#[.string x]++#[.pointer (some ⟨g,0,none⟩)]) w fun e w'=>e=.returned (.bool (z4z l x))∧Fr [] w w':=by
 have CT:=hid (z6x l x A c B w hl hB h)
 have EH:=hid (show(l.any fun y=>decide (y=x))=z4z l x from rfl)
 rw[EH.out] at CT
 generalize z4z l x=b at *
 clear h EH
 go_enter Tryz.func234,Tryz.ntmps234
 go_wp2_with fail
 refine CT.out.mono ?_
 rintro e w1 ⟨rfl,rfl⟩
 go_wp2
 go_ret
 exact⟨rfl,Fr.refl _ _⟩
theorem zoe(l:List ByteArray)(A:Option Addr)(c g D:Nat)(w:World)(hl:l.length≤281474976710656)(hD:D≤w.heap.size)(h:Sl w D 1 (.slice A l.length c) l.length (z03 l))(hc:w.cell? ⟨g,0,none⟩=some (.slice A l.length c))(hg:g < D) :
  zjh 234 #[.pointer (some ⟨g,0,none⟩)] (fun x=>z4z l x) D w:=
 fun W x hW=>zre x l A c g D W hl (Nat.le_trans hD hW.size) (zq0 h hW (Nat.le_refl _)) (z4t hW hc hg (by simp))
theorem zfx(x:Itm)(v:Value)(l:List ByteArray)(A:Option Addr)(c:Nat)(w:World)(B:Nat)(hs:x.Small)(hB:B≤w.heap.size)(h:z0q w B v x)(hl:l.length≤281474976710656)(hL:Sl w B 1 (.slice A l.length c) l.length (z03 l)) :
  Calls prog 188 #[v,.slice A l.length c] w (z4k (z9r 3 x l) (z02 3 x) (z60 3 x l) w):=by
 have RD:=hid (fun W (hf:Fr [] w W)=>z7w x v W B hs (Nat.le_trans hB hf.size) (h.fr hf hB (by simp)))
 obtain⟨A1,c1,A2,c2,A3,c3,rfl,h1,h2,h3⟩:=h
 have H1:=hid h1
 have HL:=hid hL
 have D0:=hid (BO.newL w (.int .i64 x.kind) (.string x.text) (.slice A1 x.list.length c1) (.slice A2 x.pairs.length c2) (.slice A3 x.scores.length c3) (.slice A l.length c))
 obtain⟨d0,d1,d2,d3,d4⟩:=five D0.out.b
 have S0:=hid (show(((w.alloc (.cells #[.int .i64 x.kind,.string x.text,.slice A1 x.list.length c1,.slice A2 x.pairs.length c2,.slice A3 x.scores.length c3] 43)).alloc (.cells #[.slice A l.length c] 24)).alloc (.cells #[.int .i64 0,.string ⟨#[]⟩,.slice none 0 0,.slice none 0 0,.slice none 0 0] 43)).cell? ⟨w.heap.size+1,0,none⟩=some (.slice A l.length c) from by
  have:=((Whole.new (w.alloc (.cells #[.int .i64 x.kind,.string x.text,.slice A1 x.list.length c1,.slice A2 x.pairs.length c2,.slice A3 x.scores.length c3] 43)) 24 [.slice A l.length c]).alloc (.cells #[.int .i64 0,.string ⟨#[]⟩,.slice none 0 0,.slice none 0 0,.slice none 0 0] 43)).cell 0
  simpa using this)
 have EY:=hid (show z60 3 x l=if z02 3 x=0 then ofK 3 (z8m x.list l) else z2r 0 from rfl)
 have EK:=hid (show z9r 3 x l=if z02 3 x=0 then (x.list.length:Int) - (z8m x.list l).length else 0 from rfl)
 clear h1 h2 h3 hs hL
 by_cases ha:z02 3 x=0
 ·have hok:=z18 ha
  rw[EY.out,EK.out,if_pos ha,if_pos ha,ha]
  rw[ha] at RD
  have h24:x.list.length≤24:=by have:=hok.le24;unfold many at this;omega
  have OR:=hid (show rises ltS (z8m x.list l)=true from zgz (fun y=>!z4z l y) (zfo ha).1)
  have hrl:(z8m x.list l).length≤x.list.length:=List.length_filter_le _ _
  have OF:=hid (fun W base u hb hu=>(show Calls prog 233 #[u] W (zp3 (ofK 3 (z8m x.list l)) base u W) from by have:=zgf (z8m x.list l) base u W (by omega) (fun y hy=>by have:=hok.texts y (List.mem_filter.1 hy).1;omega) hb hu;rw[zem OR.out] at this;exact this))
  have CL:=hid (fun W (hW:Fr [] w W)=>z56 x.list.length (z03 x.list) A1 c1 W B (by omega) (Nat.le_trans hB hW.size) (H1.out.fr hW hB (by simp)) (z3f _))
  have DF:=hid (fun W base u D (hp:zjh 234 #[.pointer (some ⟨w.heap.size+1,0,none⟩)] (fun x=>z4z l x) D W) hD hu=>(show Calls prog 230 #[u,.func (Fn.func 234) #[] #[.pointer (some ⟨w.heap.size+1,0,none⟩)]] W (zd4 (z8m x.list l) base u W) from zg6 234 #[.pointer (some ⟨w.heap.size+1,0,none⟩)] (z1x Tryz.func234 (by kernel_rfl) rfl) (fun x=>z4z l x) D x.list base u W hp hD (by omega) hu))
  clear hok EY EK ha
  generalize ofK 3 (z8m x.list l)=y at *
  have HW:=hid (show IntKind.i64.wrap ((x.list.length:Int) - ((z8m x.list l).length:Int))=(x.list.length:Int) - (z8m x.list l).length from IntWalk.i64_in _ (by omega))
  generalize z8m x.list l=r at *
  go_enter Tryz.func188,Tryz.ntmps188
  go_wp2_with fail
  refine(RD.out _ D0.out.f).mono ?_
  rintro e w1 ⟨rfl,f1⟩
  have D1:=hid (D0.out.go f1)
  have S1:=hid (f1.cell S0.out (by simp))
  have hz1:=D1.out.lt
  clear d0 d1 d2 d3 d4
  obtain⟨d0,d1,d2,d3,d4⟩:=five D1.out.b
  go_wp2_with fail
  refine(CL.out _ D1.out.f).mono ?_
  rintro e w2 ⟨u,rfl,ho,f2⟩
  have D2:=hid (D1.out.go f2)
  have S2:=hid (f2.cell S1.out (by simp))
  have HO:=hid ho
  obtain⟨U,cu,rfl,-⟩:=z06 ho
  have hp:=hid (zoe l A c (w.heap.size+1) w1.heap.size w2 hl f2.size (((HL.out.fr D1.out.f hB (by simp)).more (Nat.le_trans hB D1.out.f.size)).fr f2 (Nat.le_refl _) (by simp)) S2.out (by omega))
  clear d0 d1 d2 d3 d4 ho
  obtain⟨d0,d1,d2,d3,d4⟩:=five D2.out.b
  go_wp2_with fail
  refine(DF.out _ _ _ _ hp.out (Nat.le_refl _) HO.out).mono ?_
  rintro e w3 ⟨u3,rfl,ho3,f3,-⟩
  have D3:=hid (D2.out.step f3 (fun g hg=>by have:=z1j HO.out hg;omega))
  have HO3:=hid ho3
  obtain⟨U3,cu3,rfl,-⟩:=z06 ho3
  clear d0 d1 d2 d3 d4 ho3
  obtain⟨d0,d1,d2,d3,d4⟩:=five D3.out.b
  have hb3:w1.heap.size≤w3.drew.heap.size:=Nat.le_trans f2.size f3.size
  have hne1:¬w.heap.size=w.heap.size+1+1:=by omega
  have hne2:¬w.heap.size+1+1=w.heap.size:=by omega
  go_wp2
  go_region_held3 (fun wx=>wx.cell? ⟨w.heap.size,2,none⟩=some (.slice A1 x.list.length c1)) (go_keep) (first|(go_at_call 233;(refine(OF.out _ _ _ hb3 (show w3.drew.ownsRow _ _ _ _ _ _ from HO3.out)).mono ?_);rintro e w5 ⟨u5,rfl,hi,f5⟩;have D5:=hid (D3.out.step (z01 f5) (fun g hg=>by have:=z1j HO3.out hg;omega));clear d0 d1 d2 d3 d4 f5;obtain⟨d0,d1,d2,d3,d4⟩:=five D5.out.b;have HI:=hid hi;obtain⟨P1,p1,P2,p2,P3,p3,rfl⟩:=hi.form;clear hi;have OO:=D5.out.o;rw[show w.heap.size+2=w.heap.size+1+1 from rfl] at OO;obtain⟨a0,a1,a2,a3,a4⟩:=five OO;obtain⟨b0,b2,b3,b4,b5⟩:=z10 OO;clear OO))
  go_wp2
  refine bodyPost_ret (v:=.tuple #[.agg #[.int .i64 y.kind,.string y.text,.slice P1 y.list.length p1,.slice P2 y.pairs.length p2,.slice P3 y.scores.length p3],.int .i64 (IntKind.i64.wrap ((x.list.length:Int) - (r.length:Int))),.int .i64 0]) (by simp[results,Tryz.results188,go_sem,a0,a1,a2,a3,a4]) rfl ?_
  exact⟨_,by rw[HW.out],(z1q HI.out (by omega) _ _ _ _ _).less (by omega),D5.out.end5 _ _ _ _ _⟩
 ·rw[EY.out,EK.out,if_neg ha,if_neg ha]
  have q2:(z02 3 x != 0)=true:=by simpa using ha
  clear EY EK ha
  generalize z02 3 x=r at *
  go_enter Tryz.func188,Tryz.ntmps188
  go_wp2_with fail
  refine(RD.out _ D0.out.f).mono ?_
  rintro e w1 ⟨rfl,f1⟩
  have D1:=hid (D0.out.go f1)
  clear d0 d1 d2 d3 d4
  have OO:=D1.out.o
  rw[show w.heap.size+2=w.heap.size+1+1 from rfl] at OO
  obtain⟨a0,a1,a2,a3,a4⟩:=five OO
  obtain⟨b0,b2,b3,b4,b5⟩:=z10 OO
  clear OO
  go_wp2
  refine bodyPost_ret (v:=.tuple #[.agg #[.int .i64 0,.string ⟨#[]⟩,.slice none 0 0,.slice none 0 0,.slice none 0 0],.int .i64 0,.int .i64 r]) (by simp[results,Tryz.results188,go_sem,a0,a1,a2,a3,a4]) rfl ?_
  exact⟨_,rfl,z0l.nothing _ _,D1.out.end5 _ _ _ _ _⟩
def z3z(w:World)(B:Nat)(v:Value)(l:List Itm):Prop:=
 ∃A c,∃rs:List (List Value),v=.slice A l.length c∧rs.length=l.length∧(∀(i:Nat) (x:Itm),l[i]? = some x→∃cs:List Value,rs[i]? = some cs∧cs.length=5∧z0q w B (.agg cs.toArray) x)∧Sl w B 5 v l.length rs.flatten
theorem zxh:∀(rs:List (List Value)) (i j:Nat) (cs:List Value),(∀c∈rs,c.length=5)→rs[i]? = some cs→j < 5→rs.flatten[i * 5+j]? = cs[j]?
 | [],i,j,cs,_,h,_=>by simp at h
 | r :: rs,0,j,cs,hl,h,hj=>by
  simp at h
  subst h
  rw[Nat.zero_mul,Nat.zero_add,List.flatten_cons,List.getElem?_append_left (by rw[hl r (by simp)];exact hj)]
 | r :: rs,i+1,j,cs,hl,h,hj=>by
  have hr:=hl r (by simp)
  rw[List.flatten_cons,List.getElem?_append_right (by omega),hr,show(i+1) * 5+j - 5=i * 5+j from by omega]
  exact zxh rs i j cs (fun c hc=>hl c (by simp[hc])) (by simpa using h) hj
structure At5(w:World)(B b o:Nat)(x:Itm)(A1 A2 A3:Option Addr)(c1 c2 c3:Nat):Prop where
 k0:w.cell? ⟨b,o,none⟩=some (.int .i64 x.kind)
 k1:w.cell? ⟨b,o+1,none⟩=some (.string x.text)
 k2:w.cell? ⟨b,o+2,none⟩=some (.slice A1 x.list.length c1)
 k3:w.cell? ⟨b,o+3,none⟩=some (.slice A2 x.pairs.length c2)
 k4:w.cell? ⟨b,o+4,none⟩=some (.slice A3 x.scores.length c3)
 s1:Sl w B 1 (.slice A1 x.list.length c1) x.list.length (z03 x.list)
 s2:Sl w B 2 (.slice A2 x.pairs.length c2) x.pairs.length (z0e x.pairs)
 s3:Sl w B 2 (.slice A3 x.scores.length c3) x.scores.length (z08 x.scores)
theorem At5.item{w:World}{B b o:Nat}{x:Itm}{A1 A2 A3:Option Addr}{c1 c2 c3:Nat}(h:At5 w B b o x A1 A2 A3 c1 c2 c3):z0q w B (.agg #[.int .i64 x.kind,.string x.text,.slice A1 x.list.length c1,.slice A2 x.pairs.length c2,.slice A3 x.scores.length c3]) x:=
 ⟨A1,c1,A2,c2,A3,c3,rfl,h.s1,h.s2,h.s3⟩
theorem At5.fr{w w':World}{B b o:Nat}{x:Itm}{A1 A2 A3:Option Addr}{c1 c2 c3:Nat}{S:List Nat}(h:At5 w B b o x A1 A2 A3 c1 c2 c3)(hf:Fr S w w')(hb:b < B)(hB:B≤w.heap.size)(hS:∀k,k∈S→B≤k):At5 w' B b o x A1 A2 A3 c1 c2 c3:=by
 have hn:b∉S:=fun hm=>by have:=hS b hm;omega
 exact⟨hf.cell h.k0 hn,hf.cell h.k1 hn,hf.cell h.k2 hn,hf.cell h.k3 hn,hf.cell h.k4 hn,h.s1.fr hf hB hS,h.s2.fr hf hB hS,h.s3.fr hf hB hS⟩
theorem z3z.form{w:World}{B:Nat}{v:Value}{l:List Itm}(h:z3z w B v l):∃A c,v=.slice A l.length c:=by
 obtain⟨A,c,rs,rfl,_⟩:=h
 exact⟨A,c,rfl⟩
theorem z3z.at_{w:World}{B:Nat}{A:Option Addr}{c:Nat}{l:List Itm}(h:z3z w B (.slice A l.length c) l)(hn:0 < l.length) :
  ∃b off,A=some ⟨b,off,none⟩∧b < B∧l.length≤c∧c≤maxLen∧∀(i:Nat) (x:Itm),l[i]? = some x→∃A1 A2 A3 c1 c2 c3,At5 w B b (off+i * 5) x A1 A2 A3 c1 c2 c3:=by
 obtain⟨A',c',rs,hv,hl,hi,hs⟩:=h
 cases hv
 obtain⟨b,off,rfl,hb,hc,hm,hcell⟩:=hs.at_ hn
 refine⟨b,off,rfl,hb,hc,hm,fun i x hx=>?_⟩
 obtain⟨cs,hcs,h5,hit⟩:=hi i x hx
 have all5:∀c∈rs,c.length=5:=fun c hc=>by
  obtain⟨j,hj,rfl⟩:=List.getElem_of_mem hc
  obtain⟨d,hd,h5',_⟩:=hi j _ (List.getElem?_eq_getElem (show j < l.length by omega))
  rw[List.getElem?_eq_getElem hj] at hd
  cases hd
  exact h5'
 obtain⟨A1,c1,A2,c2,A3,c3,he,s1,s2,s3⟩:=hit
 have he':cs=[.int .i64 x.kind,.string x.text,.slice A1 x.list.length c1,.slice A2 x.pairs.length c2,.slice A3 x.scores.length c3]:=by
  have:=congrArg Array.toList (Value.agg.inj he)
  simpa using this
 subst he'
 have g:∀j u,j < 5→[Value.int .i64 x.kind,.string x.text,.slice A1 x.list.length c1,.slice A2 x.pairs.length c2,.slice A3 x.scores.length c3][j]? = some u→w.cell? ⟨b,off+(i * 5+j),none⟩=some u:=fun j u hj hu=>
  hcell _ _ (by rw[zxh rs i j _ all5 hcs hj];exact hu)
 exact⟨A1,A2,A3,c1,c2,c3,g 0 _ (by decide) rfl,by rw[Nat.add_assoc];exact g 1 _ (by decide) rfl,by rw[Nat.add_assoc];exact g 2 _ (by decide) rfl,by rw[Nat.add_assoc];exact g 3 _ (by decide) rfl,by rw[Nat.add_assoc];exact g 4 _ (by decide) rfl,s1,s2,s3⟩
theorem z3z.fr{w w':World}{B:Nat}{S:List Nat}{v:Value}{l:List Itm}(h:z3z w B v l)(hf:Fr S w w')(hB:B≤w.heap.size)(hS:∀k,k∈S→B≤k):z3z w' B v l:=by
 obtain⟨A,c,rs,rfl,hl,hi,hs⟩:=h
 exact⟨A,c,rs,rfl,hl,fun i x hx=>by
  obtain⟨cs,h1,h2,h3⟩:=hi i x hx
  exact⟨cs,h1,h2,h3.fr hf hB hS⟩,hs.fr hf hB hS⟩
theorem lawT:Maps.Keyed prog 9:=Maps.string_keyed Tryz.underlying9
theorem zeroT(w:World):(zeroValue 3).run prog w=.ok (.int .i64 0) w:=by kernel_rfl
theorem Fr.grown0{a b:World}(h:Fr [] a b):a.grownBy b none:=⟨h.os,h.tape,h.output,h.size,fun i hi _=>h.block i hi (by simp)⟩
theorem keyT(s:ByteArray)(hs:s.size≤281474976710656):keyOf prog 9 (.string s)=some (kS s):=WideMaps.keyOf_string_mk Tryz.underlying9 (by unfold maxLen;omega)
theorem zr8(key:Value)(kl:Lit)(h:keyOf prog 9 key=some kl):∃s:ByteArray,key=.string s:=by
 obtain⟨x,hx,_,_⟩:=Maps.keyOf_str Tryz.underlying9 h
 exact⟨unB x,hx⟩
theorem zrp{s:ByteArray}{kl:Lit}(h:keyOf prog 9 (.string s)=some kl):kl=kS s:=by
 obtain⟨x,hx,rfl,_⟩:=Maps.keyOf_str Tryz.underlying9 h
 have:=Value.string.inj hx
 subst this
 rfl
theorem znl(v:Value)(y:DataW Unit×List MemPlace)(h:plainElem prog 3 v=some y):∃c:Int,v=.int .i64 c:=by
 obtain⟨c,rfl,_⟩:=plainElem_int_inv Tryz.underlying3 h
 exact⟨c,rfl⟩
abbrev OwnM(w:World)(b n:Nat)(D:DataW Unit):Prop:=w.ownsMap prog 9 (plainElem prog 3) b n D
abbrev RanM(w:World)(b r n:Nat)(D:DataW Unit)(left:Lit→Bool)(cnt:Nat):Prop:=w.ranges prog 9 (plainElem prog 3) b r n D left cnt
theorem zdg{l:List Itm}{k:Nat}{x:Itm}(h:l[k]? = some x):zbp (l.take (k+1))=zbp (l.take k)++x.list:=by
 unfold zbp
 rw[List.take_add_one,h]
 simp
theorem zul{l:List Itm}{k:Nat}{x:Itm}{c:Int}(h:∀y∈l.take k,z02 c y=0)(hx:l[k]? = some x)(ha:z02 c x=0):∀y∈l.take (k+1),z02 c y=0:=by
 intro y hy
 rw[List.take_add_one,hx] at hy
 rcases List.mem_append.1 hy with hy|hy
 ·exact h y hy
 ·simp at hy;subst hy;exact ha
theorem zfz{l:List Itm}(h:∀y∈l,z02 3 y=0):(zbp l).length≤24 * l.length:=by
 induction l with
 | nil=>simp[zbp]
 | cons x l ih=>
  have h1:=ih fun y hy=>h y (by simp[hy])
  have h2:=(zfo (h x (by simp))).2
  unfold zbp at h1 ⊢
  rw[List.flatMap_cons,List.length_append,List.length_cons]
  omega
theorem zqs{n:Nat}{c:Int}(h:nI n=.lit (.int .i64 c)):c=(n:Int):=by
 unfold nI at h
 exact(Lit.int.inj (DataW.lit.inj h)).2.symm
theorem elemN(n:Nat)(h:n≤4611686018427387904):plainElem (H:=Unit) prog 3 (.int .i64 ((n:Int)+1))=some (nI (n+1),[]):=
 plainElem_int Tryz.underlying3 (WalkArith.wf_i64 ⟨by omega,by omega⟩)
def zbu(r:List ByteArray)(code:Int)(w:World)(e:Ending)(w':World):Prop:=∃u,e=.returned (.tuple #[u,.int .i64 code])∧w'.ownsRow w.heap.size 9 1 u r.length (z03 r)∧Fr [] w w'
def PredN(g:Nat)(lb:Array Value)(p:Nat→Bool→Bool)(B:Nat)(w:World):Prop:=
 ∀W (n:Nat) (b:Bool),FrB [] B w W→Calls prog g (#[.int .i64 n,.bool b]++lb) W fun e w'=>e=.returned (.bool (p n b))∧Fr [] W w'
theorem z8o(g:Nat)(lb:Array Value)(eg:∀args w,(callFunc g args).run prog w=.ok (.enter g args) w)(p:Nat→Bool→Bool)(l:List Itm)(v:Value)(w:World)(B:Nat)(hp:PredN g lb p w.heap.size w)
  (hs:∀x∈l,x.Small) (hl:l.length≤1048576) (hB:B≤w.heap.size) (h:z3z w B v l) :
  Calls prog 237 #[v,.func (Fn.func g) #[] lb] w (zbu (z2b p l) (z0u l) w):=by
 obtain⟨i0,hi,hz0,hz1,hz2⟩:=info_parts z3o
 obtain⟨A,c,rfl⟩:=h.form
 by_cases h0:l.length=0
 ·have E1:z0u l=1:=if_pos h0
  have E2:z2b p l=[]:=by unfold z2b;rw[E1,if_neg (by decide)]
  rw[E1,E2]
  clear E1 E2 hp
  rw[h0]
  go_enter Tryz.func237,Tryz.ntmps237
  go_wp2
  go_ret2
  exact⟨_,rfl,World.ownsRow_nil _ _ _ _,Fr.refl _ _⟩
 ·have HV:=hid h
  have HP:=hid hp
  have HS:=hid hs
  have HC:=hid (show z0u l=z2s 3 l from if_neg h0)
  have hpos:0 < l.length:=by omega
  clear h hp hs
  have q0:((l.length:Int)==0)=false:=by simpa using h0
  have hmm:=@run_makeMap prog
  clear h0
  go_enter Tryz.func237,Tryz.ntmps237
  go_wp2
  go_loopg [21] l.length (fun g i wr=>∃(k:Nat) (D:DataW Unit),g=l.length - k∧k≤l.length∧i=.int .i64 k∧(∀x∈l.take k,z02 3 x=0)∧OwnM wr w.heap.size (zbp (l.take k)).length D∧Cnt D (zbp (l.take k))∧Fr [] w wr)
  case atStart=>exact⟨0,.map [],rfl,Nat.zero_le _,rfl,fun x hx=>by simp at hx,World.ownsMap_made _ _ _ _,Cnt.start,(Fr.refl _ _).alloc _⟩
  case round=>
   obtain⟨k,D,rfl,hk,rfl,hok,hm,hcn,hf⟩:=hrel
   have HF:=hid hf
   have HM:=hid hm
   have HN:=hid hcn
   have HO:=hid hok
   clear hf hm hcn hok
   obtain⟨b,off,rfl,hb,hc,hmx,hat⟩:=HV.out.at_ hpos
   have HA:=hid hat
   clear hat
   by_cases hlt:k < l.length
   ·obtain⟨x,hx⟩:∃x,l[k]? = some x:=⟨_,List.getElem?_eq_getElem hlt⟩
    obtain⟨A1,A2,A3,c1,c2,c3,h5⟩:=HA.out k x hx
    have hxs:=HS.out x (List.mem_of_getElem? hx)
    have P5:=hid (h5.fr HF.out hb hB (by simp))
    have a0:=P5.out.k0
    have a1:=P5.out.k1
    have a2:=P5.out.k2
    have a3:=P5.out.k3
    have a4:=P5.out.k4
    have F1:=hid ((Fr.refl [] wr).alloc (.cells #[.int .i64 x.kind,.string x.text,.slice A1 x.list.length c1,.slice A2 x.pairs.length c2,.slice A3 x.scores.length c3] 43))
    have W1:=hid (Whole.new wr 43 [.int .i64 x.kind,.string x.text,.slice A1 x.list.length c1,.slice A2 x.pairs.length c2,.slice A3 x.scores.length c3])
    have RD:=hid (fun W (hW:Fr [] wr W)=>z7w x (.agg #[.int .i64 x.kind,.string x.text,.slice A1 x.list.length c1,.slice A2 x.pairs.length c2,.slice A3 x.scores.length c3]) W B hxs (Nat.le_trans hB (Nat.le_trans HF.out.size hW.size)) (P5.out.item.fr hW (Nat.le_trans hB HF.out.size) (by simp)))
    have HX:=hid hx
    clear hx hxs
    by_cases ha:z02 3 x=0
    ·rw[ha] at RD
     have X1:=hid h5.s1
     have hx24:=(zfo ha).2
     have TX:=hid ((z18 ha).texts)
     have hkl:(zbp (l.take k)).length≤24 * l.length:=by
      have h1:=zfz HO.out
      have h2:(l.take k).length≤l.length:=by rw[List.length_take];omega
      omega
     have OKN:=hid (zul HO.out HX.out ha)
     have ET:=hid (zdg HX.out)
     generalize zbp (l.take k)=ts at *
     clear P5 h5
     obtain⟨wo,rfl⟩:∃wo,wo=wr:=⟨_,rfl⟩
     go_wp2_with fail
     refine(RD.out _ F1.out).mono ?_
     rintro e w1 ⟨rfl,f1⟩
     have F2:=hid (F1.out.trans f1)
     have W2:=hid (W1.out.fr f1 (by simp))
     clear f1 a0 a1 a2 a3 a4
     obtain⟨a0,a1,a2,a3,a4⟩:=five W2.out
     go_wp2
     go_loopg [33] x.list.length (fun g j wi=>∃(q:Nat) (D':DataW Unit),g=x.list.length - q∧q≤x.list.length∧j=.int .i64 q∧OwnM wi w.heap.size (ts++x.list.take q).length D'∧Cnt D' (ts++x.list.take q)∧Fr [] w wi)
     case atStart=>exact⟨0,D,rfl,Nat.zero_le _,rfl,by rw[List.take_zero,List.append_nil];exact HM.out.kept F2.out.grown0 (by simp),by rw[List.take_zero,List.append_nil];exact HN.out,HF.out.trans F2.out⟩
     case round=>
      obtain⟨q,D',rfl,hq,rfl,hm,hcn,hf⟩:=hrel
      have HFi:=hid hf
      have HMi:=hid hm
      have HNi:=hid hcn
      clear hf hm hcn
      have hlen:(ts++x.list.take q).length≤24 * l.length+24:=by rw[List.length_append,List.length_take];omega
      by_cases hlt2:q < x.list.length
      ·obtain⟨s,hs⟩:∃s,x.list[q]? = some s:=⟨_,List.getElem?_eq_getElem hlt2⟩
       obtain⟨b1,o1,rfl,hb1,hcx,hmx1,hcell⟩:=X1.out.at_ (by omega)
       have cc:=HFi.out.cell (show w.cell? ⟨b1,o1+q,none⟩=some (.string s) from hcell q _ (z15 _ q s hs)) (by simp)
       have hs60:=TX.out s (List.mem_of_getElem? hs)
       have hn:=zvz (ts++x.list.take q) s
       have EA:=hid (HNi.out.at_ s)
       have NX:=hid (HNi.out.put s)
       have ES:=hid (show ts++x.list.take (q+1)=(ts++x.list.take q)++[s] from by rw[List.take_add_one,hs,←List.append_assoc];rfl)
       clear hcell hs
       generalize zm9 (ts++x.list.take q) s=n at *
       rw[←ES.out] at NX
       have EL:=hid (show(ts++x.list.take (q+1)).length=(ts++x.list.take q).length+1 from by rw[ES.out,List.length_append];rfl)
       clear ES
       generalize hU:ts++x.list.take q=U at *
       generalize hU2:ts++x.list.take (q+1)=U2 at *
       go_wp2_with (first
        | (at_lookup;go_loud (refine wpList_lookup_own_int _ rfl _ _ 176 rfl 9 3 .i64 lawT Tryz.underlying176 Tryz.underlying3 (zeroT _) w.heap.size _ D' rfl HMi.out _ _ rfl (keyT s (by omega)) ?_;intro c hat hwc;obtain rfl:=zqs (EA.out.symm.trans hat);clear hat hwc))
        | (at_mapUpdate;go_loud (refine wpList_mapUpdate_own _ rfl _ _ _ 176 rfl 9 3 lawT Tryz.underlying176 _ w.heap.size _ D' rfl HMi.out (by unfold maxLen;omega) _ _ _ rfl rfl (keyT s (by omega)) (nI (n+1)) [] (elemN n (by omega)) ?_;intro w2 hown2 hgrow2))
        | go_in)
       go_roundg (x.list.length - (q+1))
       case measure=>omega
       case rel=>exact⟨q+1,_,rfl,by omega,by go_num,by rw[hU2,EL.out];exact hown2,by rw[hU2];exact NX.out,HFi.out.grown hgrow2 (fun j hj=>by cases hj;exact .inr (Nat.le_refl _))⟩
      ·obtain rfl:q=x.list.length:=by omega
       rw[List.take_length,←ET.out] at HMi HNi
       clear ET hlen
       go_wp2
       go_roundg (l.length - (k+1))
       case measure=>omega
       case rel=>exact⟨k+1,D',rfl,by omega,by go_num,OKN.out,HMi.out,HNi.out,HFi.out⟩
    ·have E1:=hid (HC.out.trans (zb3 HO.out HX.out ha))
     have E2:=hid (show z2b p l=[] from by unfold z2b;rw[E1.out,if_neg ha])
     have q1:(z02 3 x != 0)=true:=by simpa using ha
     rw[E1.out,E2.out]
     clear E1 E2 ha HC
     generalize z02 3 x=r at *
     go_wp2_with fail
     refine(RD.out _ F1.out).mono ?_
     rintro e w1 ⟨rfl,f1⟩
     go_wp2
     go_ret2
     exact⟨_,rfl,World.ownsRow_nil _ _ _ _,HF.out.trans (F1.out.trans f1)⟩
   ·obtain rfl:k=l.length:=by omega
    rw[List.take_length] at HO HM HN
    have EC:=hid (HC.out.trans (z98 HO.out))
    have ER:=hid (show z2b p l=z8e ((zbp l).filter (pick p l)) from by unfold z2b;rw[if_pos EC.out])
    have hal:=zfz HO.out
    have CN:=hid (zgx (l:=l) (fun x hx=>(zfo (HO.out x hx)).1))
    obtain⟨x0,hx0⟩:∃x,l[0]? = some x:=⟨_,List.getElem?_eq_getElem hpos⟩
    obtain⟨A1,A2,A3,c1,c2,c3,h5⟩:=HA.out 0 x0 hx0
    rw[Nat.zero_mul,Nat.add_zero] at h5
    have H5:=hid h5
    have hr0:=(zfo (HO.out x0 (List.mem_of_getElem? hx0))).1
    have hl0:=(HS.out x0 (List.mem_of_getElem? hx0)).list
    have EF:=hid (show zty l=x0.list from by cases l with
     | nil=>simp at hx0
     | cons y l=>simp at hx0;subst hx0;rfl)
    have EP:=hid (show ∀s,pick p l s=p (zwr l s) (z4z x0.list s) from fun s=>by unfold pick;rw[EF.out])
    have TS:=hid (show ∀s∈zbp l,s.size≤60 from fun s hs=>by
     obtain⟨x,hx,hsx⟩:=List.mem_flatMap.1 hs
     exact(z18 (HO.out x hx)).texts s hsx)
    have HR0:=hid hr0
    clear hx0 h5 hr0 HC EF HO
    generalize zbp l=ts at *
    generalize pick p l=pk at *
    generalize zwr l=hn at *
    obtain⟨wo,rfl⟩:∃wo,wo=wr:=⟨_,rfl⟩
    have hlo:=HM.out.lt
    go_wp2_with (first
     | (at_range;refine wpList_range_own _ rfl _ 176 rfl 9 3 lawT Tryz.underlying176 _ w.heap.size _ D rfl HM.out ?_;intro w0 hrg0 hg0 hs0)
     | go_in)
    go_frame
    have F0:=hid (HF.out.grown hg0 (fun k hk=>by cases hk))
    have hs0':wo.heap.size < w0.heap.size:=by omega
    clear hs0
    go_loopg [12] (Maps.size D) (fun g v wi=>∃(left:Lit→Bool) (d:List ByteArray),RanM wi w.heap.size wo.heap.size ts.length D left g∧wi.ownsRow wo.heap.size 9 1 v d.length (z03 d)∧Coll ts pk left d∧Fr [] w wi∧wo.heap.size < wi.heap.size)
    case atStart=>exact⟨_,[],hrg0,World.ownsRow_nil _ _ _ _,Coll.start HN.out,F0.out,hs0'⟩
    case round=>
     obtain⟨left,d,hrg,ho,hco,hf,hz⟩:=hrel
     have HFi:=hid hf
     have HOi:=hid ho
     have HCo:=hid hco
     have hdl:=hco.le
     have hwz:=hf.size
     clear hf hco
     obtain⟨Ad,cd,rfl,-⟩:=z06 ho
     clear ho
     go_wp2_with (first
      | (at_next;refine wpList_next_ranges _ rfl _ rfl 9 lawT (plainElem prog 3) Value.string (Value.int .i64) zr8 znl w.heap.size wo.heap.size _ _ _ _ rfl hrg ?_ ?_)
      | go_in)
     ·intro hc0 hl0
      have ED:=hid (HCo.out.done hl0)
      clear hl0
      go_wp2_with fail
      refine(zgh d wo.heap.size _ _ (by omega) HOi.out).mono ?_
      rintro e w1 ⟨rfl,ho1,g1⟩
      have HO1:=hid ho1
      have G1:=hid g1
      have LO:=hid (fun k hk=>HOi.out.lt k hk)
      clear ho1 g1
      go_wp2
      go_ret2
      rw[EC.out,ER.out,←ED.out]
      exact⟨_,rfl,z1d (by rw[z3n];exact HO1.out) HF.out.size,HFi.out.grown G1.out (fun k hk=>.inr (by have:=(LO.out k hk).1;have:=HF.out.size;omega))⟩
     ·intro x c' kl yd yp w2 cnt2 hkey hlk hv hat hrg2 hlt2 hg2 hs2 hen
      obtain rfl:kl=kS x:=zrp hkey
      have hcc:c'=(hn x:Int):=by
       obtain⟨c'',ec,hy,_⟩:=plainElem_int_inv Tryz.underlying3 hv
       cases ec
       have h1:=hat (nI 0)
       have h2:=HN.out.at_ x
       rw[h1] at h2
       rw[←CN.out x]
       refine zqs ?_
       rw[←h2]
       exact congrArg Prod.fst hy
      subst hcc
      have hxt:x∈ts:=by
       have h1:=HN.out.has x
       rw[Maps.has_true_of_atKey hat] at h1
       exact z2h.1 h1.symm
      have hx60:=TS.out x hxt
      have HL:=hid hlk
      have F2:=hid (HFi.out.grown hg2 (fun k hk=>by cases hk;exact .inr HF.out.size))
      have HO2:=hid (HOi.out.kept hg2 (Or.inr (row_ne_iter HOi.out hrg).symm))
      have P5:=hid (H5.out.fr F2.out hb hB (by simp))
      have a2:=P5.out.k2
      have HH:=hid (fun W (hW:Fr [] w2 W)=>ze4 x0.list x A1 c1 B W HR0.out hl0 (Nat.le_trans hB (Nat.le_trans F2.out.size hW.size)) (P5.out.s1.fr hW (Nat.le_trans hB F2.out.size) (by simp)))
      have EPx:=hid (EP.out x)
      have HPx:=hid (fun W (hW:Fr [] w2 W)=>HP.out W (hn x) (z4z x0.list x) ((F2.out.trans hW).toB _))
      have hsz2:wo.heap.size < w2.heap.size:=by omega
      clear hs2 hkey hv hat hlk
      by_cases hpk:pk x=true
      ·have q1:=EPx.out.symm.trans hpk
       rw[q1] at HPx
       have CT:=hid (HCo.out.take hxt HL.out hpk)
       clear q1 hpk hxt
       go_wp2_with fail
       refine(HH.out _ (Fr.refl _ _)).mono ?_
       rintro e w3 ⟨rfl,f3⟩
       have F3:=hid f3
       clear f3
       go_wp2_with fail
       refine(HPx.out _ F3.out).mono ?_
       rintro e w4 ⟨rfl,f4⟩
       have F4:=hid (F3.out.trans f4)
       have HO4:=hid (z0n HO2.out F4.out (by simp))
       have R4:=hid (hrg2.kept F4.out.grown0 (by simp) (by simp))
       have hsz4:wo.heap.size < w4.heap.size:=Nat.lt_of_lt_of_le hsz2 F4.out.size
       clear f4 hen
       go_wp2_with (at_builtin;refine wpList_append_own_at _ rfl _ _ 24 rfl wo.heap.size 9 i0 _ 1 16 Tryz.underlying24 hi hz0 hz1 hz2 rfl (by decide) _ _ _ rfl (HO4.out.alloc _) ⟨w4.heap.size,0,none⟩ 1 1 [.string x] rfl rfl ?c1a ?c2a ?c3a ?c4a ?c5a ?_)
       case c1a=>exact cell_one_new _ _ _
       case c2a=>intro u hu;simp at hu;subst hu;rfl
       case c3a=>unfold maxLen;omega
       case c4a=>omega
       case c5a=>simp;omega
       intro va w5 hown' hgrow _ hata
       have HOa:=hid hown'
       have HFa:=hid (((F2.out.trans F4.out).alloc (.cells #[.string x] 9)).grown hgrow (fun k hk=>.inr (by have:=(HO4.out.lt k hk).1;have:=HF.out.size;omega)))
       have R5:=hid ((R4.out.alloc (.cells #[.string x] 9)).kept hgrow (row_ne_low HO4.out hlo) (row_ne_iter HO4.out R4.out))
       have hsz5:wo.heap.size < w5.heap.size:=Nat.lt_of_lt_of_le (by simp;omega) hgrow.size
       clear hown' hgrow hata
       go_wp2
       go_roundg cnt2
       case measure=>exact hlt2
       case rel=>exact⟨_,d++[x],R5.out,by rw[z4y,List.length_append];simpa[z03] using HOa.out,CT.out,HFa.out,hsz5⟩
      ·have q1:=EPx.out.symm.trans (show pk x=false by simpa using hpk)
       rw[q1] at HPx
       have CT:=hid (HCo.out.leave (x:=x) (show pk x=false by simpa using hpk))
       clear q1 hpk hxt
       go_wp2_with fail
       refine(HH.out _ (Fr.refl _ _)).mono ?_
       rintro e w3 ⟨rfl,f3⟩
       have F3:=hid f3
       clear f3
       go_wp2_with fail
       refine(HPx.out _ F3.out).mono ?_
       rintro e w4 ⟨rfl,f4⟩
       have F4:=hid (F3.out.trans f4)
       have HO4:=hid (z0n HO2.out F4.out (by simp))
       have R4:=hid (hrg2.kept F4.out.grown0 (by simp) (by simp))
       have hsz4:wo.heap.size < w4.heap.size:=Nat.lt_of_lt_of_le hsz2 F4.out.size
       clear f4 hen
       go_wp2
       go_roundg cnt2
       case measure=>exact hlt2
       case rel=>exact⟨_,d,R4.out,HO4.out,CT.out,F2.out.trans F4.out,hsz4⟩
end Go.Proofs.YtamgdmiopinidaaGreatDoor
