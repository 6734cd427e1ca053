/- Contracts that the proof of E3 uses. No condition beyond those in each theorem. -/
import Derived.Test.YtamgdmiopinidaaGreatDoorSlE324
import Derived.Test.YtamgdmiopinidaaGreatDoorSlE325
set_option linter.unusedVariables false
set_option linter.unusedSimpArgs false
set_option maxHeartbeats 8000000
set_option maxRecDepth 100000
namespace Go.Proofs.YtamgdmiopinidaaGreatDoor
open Lib (hid)
open Go.Proofs.Tryz (prog)
open Go.RowKit
theorem zgm(x:Itm)(v:Value)(left:Bool)(l:List ByteArray)(Al:Option Addr)(cl:Nat)(w:World)(B:Nat)(hs:x.Small)(hB:B≤w.heap.size)(h:z0q w B v x)(hl:l.length≤281474976710656)(hL:Sl w B 1 (.slice Al l.length cl) l.length (z03 l)) :
  Calls prog 181 #[v,.bool left,.slice Al l.length cl] w (z4k (zbe x left l) (z14 x l) (z8p x left l) w):=by
 have RD:=hid (fun W (hf:Fr [] w W)=>z9e x v W B hs (Nat.le_trans hB hf.size) (h.fr hf hB (by simp)))
 have SM:=hid (fun W (hf:Fr [] w W)=>zkl l Al cl W B hl (Nat.le_trans hB hf.size) (hL.fr hf hB (by simp)))
 have HL:=hid hL
 obtain⟨A1,c1,A2,c2,A3,c3,rfl,h1,h2,h3⟩:=h
 have H1:=hid h1
 have D0:=hid (BO.new w (.int .i64 x.kind) (.string x.text) (.slice A1 x.list.length c1) (.slice A2 x.pairs.length c2) (.slice A3 x.scores.length c3))
 obtain⟨d0,d1,d2,d3,d4⟩:=five D0.out.b
 have EC:=hid (show z14 x l=if z02 2 x≠0 then z02 2 x else if z13 l≠0 then z13 l else if 24 < x.list.length+l.length then 2 else 0 from rfl)
 have EY:=hid (show z8p x left l=if z14 x l=0 then ofL (z79 x left l) else z2r 0 from rfl)
 have EK:=hid (show zbe x left l=if z14 x l=0 then ((z79 x left l).length:Int) else 0 from rfl)
 have OK:=hid (fun(h:z02 2 x=0)=>z18 h)
 have OS:=hid (fun(h:z13 l=0)=>z64 h)
 have hs1:=hs.list
 clear h1 h2 h3 hs hL
 have no0:∀c:Int,c≠0→z14 x l=c→z8p x left l=z2r 0∧zbe x left l=0:=fun c hc he=>by
  have h0:z14 x l≠0:=by rw[he];exact hc
  exact⟨by rw[EY.out,if_neg h0],by rw[EK.out,if_neg h0]⟩
 have NO:=hid no0
 clear no0
 by_cases ha:z02 2 x=0
 ·rw[ha] at RD
  by_cases hb:z13 l=0
  ·rw[hb] at SM
   by_cases hc:24 < x.list.length+l.length
   ·have E:=hid (show z14 x l=2 from by rw[EC.out,if_neg (by simpa using ha),if_neg (by simpa using hb),if_pos hc])
    obtain⟨e1,e2⟩:=NO.out 2 (by decide) E.out
    rw[e1,e2,E.out]
    have q:(x.list.length:Int)+(l.length:Int) > 24:=by omega
    clear e1 e2 EC EY EK OK OS ha hb hc NO
    generalize x.list.length=n at *
    go_enter Tryz.func181,Tryz.ntmps181
    go_wp2_with fail
    refine(RD.out _ D0.out.f).mono ?_
    rintro e w1 ⟨rfl,f1⟩
    have D1:=hid (D0.out.go f1)
    clear d0 d1 d2 d3 d4
    obtain⟨d0,d1,d2,d3,d4⟩:=five D1.out.b
    go_wp2_with fail
    refine(SM.out _ D1.out.f).mono ?_
    rintro e w2 ⟨rfl,f2⟩
    have D2:=hid (D1.out.go f2)
    clear d0 d1 d2 d3 d4
    obtain⟨d0,d1,d2,d3,d4⟩:=five D2.out.b
    obtain⟨a0,a1,a2,a3,a4⟩:=five D2.out.o
    obtain⟨b0,b2,b3,b4,b5⟩:=z10 D2.out.o
    go_wp2
    refine bodyPost_ret (v:=.tuple #[.agg #[.int .i64 0,.string ⟨#[]⟩,.slice none 0 0,.slice none 0 0,.slice none 0 0],.int .i64 0,.int .i64 2]) (by simp[results,Tryz.results181,go_sem,a0,a1,a2,a3,a4]) rfl ?_
    exact⟨_,rfl,z0l.nothing _ _,D2.out.end5 _ _ _ _ _⟩
   ·have E:=hid (show z14 x l=0 from by rw[EC.out,if_neg (by simpa using ha),if_neg (by simpa using hb),if_neg hc])
    have hok:=OK.out ha
    have hos:=OS.out hb
    have OF:=hid (fun W base u hu=>z7x (z79 x left l) base u W (by rw[z4e];omega) (fun s hs=>by
     rcases zfn hs with h|h
     ·have:=hok.texts s h;omega
     ·have:=hos s h;omega) hu)
    rw[EY.out,EK.out,E.out,if_pos rfl,if_pos rfl]
    have q:¬((x.list.length:Int)+(l.length:Int) > 24):=by omega
    have h24:x.list.length+l.length≤24:=by omega
    clear hok hos E EC EY EK OK OS ha hb hc NO
    cases left
    ·have EP:=hid (show z79 x false l=x.list++l from rfl)
     generalize ofL (z79 x false l)=y at *
     go_enter Tryz.func181,Tryz.ntmps181
     go_wp2_with fail
     refine(RD.out _ D0.out.f).mono ?_
     rintro e w1 ⟨rfl,f1⟩
     have D1:=hid (D0.out.go f1)
     clear d0 d1 d2 d3 d4
     obtain⟨d0,d1,d2,d3,d4⟩:=five D1.out.b
     go_wp2_with fail
     refine(SM.out _ D1.out.f).mono ?_
     rintro e w2 ⟨rfl,f2⟩
     have D2:=hid (D1.out.go f2)
     clear d0 d1 d2 d3 d4
     obtain⟨d0,d1,d2,d3,d4⟩:=five D2.out.b
     have D3:=hid (D2.out.alloc (.cells #[.slice A1 x.list.length c1,.slice Al l.length cl] 24))
     have V3:=hid (Whole.new w2 24 [.slice A1 x.list.length c1,.slice Al l.length cl])
     have CC:=hid (z62 x.list l _ _ w2.heap.size 2 _ B (by omega) (by omega) (by omega) (by omega) (Nat.le_trans hB D3.out.f.size) (H1.out.fr D3.out.f hB (by simp)) (HL.out.fr D3.out.f hB (by simp)) (V3.out.cell 0) (V3.out.cell 1))
     go_wp2_with fail
     refine CC.out.mono ?_
     rintro e w3 ⟨u,rfl,ho,f3⟩
     have D4:=hid (D3.out.go f3)
     have hz:=D3.out.lt
     rw[←EP.out] at ho
     have HO:=hid ho
     obtain⟨U,cu,rfl,-⟩:=z06 ho
     clear d0 d1 d2 d3 d4 ho
     have hle:(z79 x false l).length≤24:=by rw[z4e];omega
     go_wp2_with fail
     refine(OF.out _ _ _ HO.out).mono ?_
     rintro e w4 ⟨u,rfl,hi,f4⟩
     have D5:=hid (D4.out.go f4)
     have HI:=hid hi
     obtain⟨P1,p1,P2,p2,P3,p3,rfl⟩:=hi.form
     clear hi
     obtain⟨a0,a1,a2,a3,a4⟩:=five D5.out.o
     obtain⟨b0,b2,b3,b4,b5⟩:=z10 D5.out.o
     go_wp2
     refine bodyPost_ret (v:=.tuple #[.agg #[.int .i64 y.kind,.string y.text,.slice P1 y.list.length p1,.slice P2 y.pairs.length p2,.slice P3 y.scores.length p3],.int .i64 ((z79 x false l).length:Nat),.int .i64 0]) (by simp[results,Tryz.results181,go_sem,a0,a1,a2,a3,a4]) rfl ?_
     exact⟨_,rfl,(z1q HI.out (by omega) _ _ _ _ _).less (by omega),D5.out.end5 _ _ _ _ _⟩
    ·have EP:=hid (show z79 x true l=l.reverse++x.list from rfl)
     generalize ofL (z79 x true l)=y at *
     go_enter Tryz.func181,Tryz.ntmps181
     go_wp2_with fail
     refine(RD.out _ D0.out.f).mono ?_
     rintro e w1 ⟨rfl,f1⟩
     have D1:=hid (D0.out.go f1)
     clear d0 d1 d2 d3 d4
     obtain⟨d0,d1,d2,d3,d4⟩:=five D1.out.b
     go_wp2_with fail
     refine(SM.out _ D1.out.f).mono ?_
     rintro e w2 ⟨rfl,f2⟩
     have D2:=hid (D1.out.go f2)
     clear d0 d1 d2 d3 d4
     obtain⟨d0,d1,d2,d3,d4⟩:=five D2.out.b
     have D3:=hid (D2.out.alloc (.cells #[.slice A1 x.list.length c1,.slice Al l.length cl] 24))
     have V3:=hid (Whole.new w2 24 [.slice A1 x.list.length c1,.slice Al l.length cl])
     have CC:=hid (z62 x.list l _ _ w2.heap.size 2 _ B (by omega) (by omega) (by omega) (by omega) (Nat.le_trans hB D3.out.f.size) (H1.out.fr D3.out.f hB (by simp)) (HL.out.fr D3.out.f hB (by simp)) (V3.out.cell 0) (V3.out.cell 1))
     go_wp2_with fail
     refine CC.out.mono ?_
     rintro e w3 ⟨u,rfl,ho,f3⟩
     have D4:=hid (D3.out.go f3)
     have hz:=D3.out.lt
     obtain⟨U,cu,rfl,-⟩:=z06 ho
     clear d0 d1 d2 d3 d4 ho
     have CL:=hid (z56 l.length (z03 l) Al cl w3 B (by omega) (Nat.le_trans hB D4.out.f.size) (HL.out.fr D4.out.f hB (by simp)) (z3f l))
     go_wp2_with fail
     refine CL.out.mono ?_
     rintro e w4 ⟨u2,rfl,ho2,f4⟩
     have D5:=hid (D4.out.go f4)
     have hz4:=D4.out.lt
     have RV:=hid (zv0 l _ u2 w4 (by omega) ho2)
     obtain⟨U2,cu2,rfl,-⟩:=z06 ho2
     have HO2:=hid ho2
     clear ho2
     go_wp2_with fail
     refine RV.out.mono ?_
     rintro e w5 ⟨rfl,ho5,hg5⟩
     have D6:=hid (D5.out.step (S:=z2l (.slice U2 l.length cu2)) ((Fr.refl _ w4).grown hg5 (fun k hk=>.inl (by cases U2 with|none=>cases hk|some ad=>simp[Value.ownBlock] at hk;simp[z2l,hk]))) (fun g hg=>by
      cases U2 with
      | none=>simp[z2l] at hg
      | some ad=>simp[z2l] at hg;have:=(HO2.out.lt g (by simp[Value.ownBlock,hg])).1;omega))
     have hz6:=D6.out.lt
     have HO5:=hid ho5
     clear ho5 hg5
     obtain⟨d0,d1,d2,d3,d4⟩:=five D6.out.b
     have D7:=hid (D6.out.alloc (.cells #[.slice U2 l.length cu2,.slice A1 x.list.length c1] 24))
     have V7:=hid (Whole.new w5 24 [.slice U2 l.length cu2,.slice A1 x.list.length c1])
     have hzz:w.heap.size+1 < w5.heap.size:=hz6
     have SL5:=hid (z0t (z0n HO5.out ((Fr.refl [] w5).alloc (.cells #[.slice U2 l.length cu2,.slice A1 x.list.length c1] 24)) (by simp)))
     have CD:=hid (z62 l.reverse x.list (.slice U2 l.length cu2) (.slice A1 x.list.length c1) w5.heap.size 2 _ _ (by simp;omega) (by omega) (by omega) (by omega) (Nat.le_refl _) (by rw[List.length_reverse];exact SL5.out) ((H1.out.fr D7.out.f hB (by simp)).more (Nat.le_trans hB D7.out.f.size)) (V7.out.cell 0) (V7.out.cell 1))
     go_wp2_with fail
     refine CD.out.mono ?_
     rintro e w6 ⟨u6,rfl,ho6,f6⟩
     have D8:=hid (D7.out.go f6)
     have hz7:=D7.out.lt
     rw[←EP.out] at ho6
     have HO6:=hid ho6
     obtain⟨U6,cu6,rfl,-⟩:=z06 ho6
     clear d0 d1 d2 d3 d4 ho6
     have hle:(z79 x true l).length≤24:=by rw[z4e];omega
     go_wp2_with fail
     refine(OF.out _ _ _ HO6.out).mono ?_
     rintro e w7 ⟨u7,rfl,hi,f7⟩
     have D9:=hid (D8.out.go f7)
     have HI:=hid hi
     obtain⟨P1,p1,P2,p2,P3,p3,rfl⟩:=hi.form
     clear hi
     obtain⟨a0,a1,a2,a3,a4⟩:=five D9.out.o
     obtain⟨b0,b2,b3,b4,b5⟩:=z10 D9.out.o
     go_wp2
     refine bodyPost_ret (v:=.tuple #[.agg #[.int .i64 y.kind,.string y.text,.slice P1 y.list.length p1,.slice P2 y.pairs.length p2,.slice P3 y.scores.length p3],.int .i64 ((z79 x true l).length:Nat),.int .i64 0]) (by simp[results,Tryz.results181,go_sem,a0,a1,a2,a3,a4]) rfl ?_
     exact⟨_,rfl,(z1q HI.out (by omega) _ _ _ _ _).less (by omega),D9.out.end5 _ _ _ _ _⟩
  ·have E:=hid (show z14 x l=z13 l from by rw[EC.out,if_neg (by simpa using ha),if_pos hb])
   obtain⟨e1,e2⟩:=NO.out _ hb E.out
   rw[e1,e2,E.out]
   have q:(z13 l==0)=false:=by simpa using hb
   have q2:(z13 l != 0)=true:=by simpa using hb
   clear e1 e2 EC EY EK OK OS ha hb NO E
   generalize z13 l=r at *
   go_enter Tryz.func181,Tryz.ntmps181
   go_wp2_with fail
   refine(RD.out _ D0.out.f).mono ?_
   rintro e w1 ⟨rfl,f1⟩
   have D1:=hid (D0.out.go f1)
   clear d0 d1 d2 d3 d4
   obtain⟨d0,d1,d2,d3,d4⟩:=five D1.out.b
   go_wp2_with fail
   refine(SM.out _ D1.out.f).mono ?_
   rintro e w2 ⟨rfl,f2⟩
   have D2:=hid (D1.out.go f2)
   clear d0 d1 d2 d3 d4
   obtain⟨a0,a1,a2,a3,a4⟩:=five D2.out.o
   obtain⟨b0,b2,b3,b4,b5⟩:=z10 D2.out.o
   go_wp2
   refine bodyPost_ret (v:=.tuple #[.agg #[.int .i64 0,.string ⟨#[]⟩,.slice none 0 0,.slice none 0 0,.slice none 0 0],.int .i64 0,.int .i64 r]) (by simp[results,Tryz.results181,go_sem,a0,a1,a2,a3,a4]) rfl ?_
   exact⟨_,rfl,z0l.nothing _ _,D2.out.end5 _ _ _ _ _⟩
 ·have E:=hid (show z14 x l=z02 2 x from by rw[EC.out,if_pos ha])
  obtain⟨e1,e2⟩:=NO.out _ ha E.out
  rw[e1,e2,E.out]
  have q:(z02 2 x==0)=false:=by simpa using ha
  have q2:(z02 2 x != 0)=true:=by simpa using ha
  clear e1 e2 EC EY EK OK OS ha NO E
  generalize z02 2 x=r at *
  go_enter Tryz.func181,Tryz.ntmps181
  go_wp2_with fail
  refine(RD.out _ D0.out.f).mono ?_
  rintro e w1 ⟨rfl,f1⟩
  have D1:=hid (D0.out.go f1)
  clear d0 d1 d2 d3 d4
  obtain⟨a0,a1,a2,a3,a4⟩:=five D1.out.o
  obtain⟨b0,b2,b3,b4,b5⟩:=z10 D1.out.o
  go_wp2
  refine bodyPost_ret (v:=.tuple #[.agg #[.int .i64 0,.string ⟨#[]⟩,.slice none 0 0,.slice none 0 0,.slice none 0 0],.int .i64 0,.int .i64 r]) (by simp[results,Tryz.results181,go_sem,a0,a1,a2,a3,a4]) rfl ?_
  exact⟨_,rfl,z0l.nothing _ _,D1.out.end5 _ _ _ _ _⟩
theorem zrl(y s:ByteArray)(g:Nat)(w:World)(h:w.cell? ⟨g,0,none⟩=some (.string s)) :
  Calls prog 231 #[.string y,.pointer (some ⟨g,0,none⟩)] w fun e w'=>e=.returned (.bool (decide (y=s)))∧Fr [] w w':=by
 have E:=hid (eqB y s)
 go_enter Tryz.func231,Tryz.ntmps231
 go_wp2
 go_ret
 exact⟨by rw[←E.out];rfl,Fr.refl _ _⟩
theorem FrB.cellOf{S:List Nat}{B:Nat}{a b:World}(h:FrB S B a b){p:Addr}{v:Value}(hc:a.cell? p=some v)(hB:p.block < B)(hS:p.block∉S):b.cell? p=some v:=
 (World.cell?_of_block (h.block _ (World.block_lt_of_cell? a p hc) hB hS)).trans hc
theorem znt(s:ByteArray)(g D:Nat)(w:World)(h:w.cell? ⟨g,0,none⟩=some (.string s))(hg:g < D):zjh 231 #[.pointer (some ⟨g,0,none⟩)] (fun y=>decide (y=s)) D w:=
 fun W x hW=>zrl x s g W (hW.cellOf h hg (by simp))
theorem zdo(x:Itm)(v:Value)(s:ByteArray)(w:World)(B:Nat)(hs:x.Small)(hB:B≤w.heap.size)(h:z0q w B v x) :
  Calls prog 186 #[v,.string s] w (z4k (zud x s) (z02 2 x) (zmz x s) w):=by
 have RD:=hid (fun W (hf:Fr [] w W)=>z9e x v W B hs (Nat.le_trans hB hf.size) (h.fr hf hB (by simp)))
 obtain⟨A1,c1,A2,c2,A3,c3,rfl,h1,h2,h3⟩:=h
 have H1:=hid h1
 have D0:=hid (BO.new2 w (.int .i64 x.kind) (.string x.text) (.slice A1 x.list.length c1) (.slice A2 x.pairs.length c2) (.slice A3 x.scores.length c3) (.string s))
 obtain⟨d0,d1,d2,d3,d4⟩:=five D0.out.b
 have S0:=hid (show(((w.alloc (.cells #[.int .i64 x.kind,.string x.text,.slice A1 x.list.length c1,.slice A2 x.pairs.length c2,.slice A3 x.scores.length c3] 43)).alloc (.cells #[.string s] 9)).alloc (.cells #[.int .i64 0,.string ⟨#[]⟩,.slice none 0 0,.slice none 0 0,.slice none 0 0] 43)).cell? ⟨w.heap.size+1,0,none⟩=some (.string s) from by
  have:=((Whole.new (w.alloc (.cells #[.int .i64 x.kind,.string x.text,.slice A1 x.list.length c1,.slice A2 x.pairs.length c2,.slice A3 x.scores.length c3] 43)) 9 [.string s]).alloc (.cells #[.int .i64 0,.string ⟨#[]⟩,.slice none 0 0,.slice none 0 0,.slice none 0 0] 43)).cell 0
  simpa using this)
 have EY:=hid (show zmz x s=if z02 2 x=0 then ofL (zm2 x s) else z2r 0 from rfl)
 have EK:=hid (show zud x s=if z02 2 x=0 then (x.list.length:Int) - (zm2 x s).length else 0 from rfl)
 have hs1:=hs.list
 clear h1 h2 h3 hs
 by_cases ha:z02 2 x=0
 ·have hok:=z18 ha
  rw[EY.out,EK.out,if_pos ha,if_pos ha,ha]
  rw[ha] at RD
  have h24:x.list.length≤24:=by have:=hok.le24;unfold many at this;omega
  have hrl:(zm2 x s).length≤x.list.length:=List.length_filter_le _ _
  have OF:=hid (fun W base u hu=>z7x (zm2 x s) base u W (by omega) (fun y hy=>by have:=hok.texts y (List.mem_filter.1 hy).1;omega) hu)
  have CL:=hid (fun W (hW:Fr [] w W)=>z56 x.list.length (z03 x.list) A1 c1 W B (by omega) (Nat.le_trans hB hW.size) (H1.out.fr hW hB (by simp)) (z3f _))
  have DF:=hid (fun W base u D (hp:zjh 231 #[.pointer (some ⟨w.heap.size+1,0,none⟩)] (fun y=>decide (y=s)) D W) hD hu=>(show Calls prog 230 #[u,.func (Fn.func 231) #[] #[.pointer (some ⟨w.heap.size+1,0,none⟩)]] W (zd4 (zm2 x s) base u W) from zg6 231 #[.pointer (some ⟨w.heap.size+1,0,none⟩)] (z1x Tryz.func231 (by kernel_rfl) rfl) (fun y=>decide (y=s)) D x.list base u W hp hD (by omega) hu))
  clear hok EY EK ha
  generalize ofL (zm2 x s)=y at *
  have HW:=hid (show IntKind.i64.wrap ((x.list.length:Int) - ((zm2 x s).length:Int))=(x.list.length:Int) - (zm2 x s).length from IntWalk.i64_in _ (by omega))
  generalize zm2 x s=r at *
  go_enter Tryz.func186,Tryz.ntmps186
  go_wp2_with fail
  refine(RD.out _ D0.out.f).mono ?_
  rintro e w1 ⟨rfl,f1⟩
  have D1:=hid (D0.out.go f1)
  have S1:=hid (f1.cell S0.out (by simp))
  have hz1:=D1.out.lt
  clear d0 d1 d2 d3 d4
  obtain⟨d0,d1,d2,d3,d4⟩:=five D1.out.b
  go_wp2_with fail
  refine(CL.out _ D1.out.f).mono ?_
  rintro e w2 ⟨u,rfl,ho,f2⟩
  have D2:=hid (D1.out.go f2)
  have S2:=hid (f2.cell S1.out (by simp))
  have HO:=hid ho
  obtain⟨U,cu,rfl,-⟩:=z06 ho
  have hp:=hid (znt s (w.heap.size+1) w1.heap.size w2 S2.out (by omega))
  clear d0 d1 d2 d3 d4 ho
  obtain⟨d0,d1,d2,d3,d4⟩:=five D2.out.b
  go_wp2_with fail
  refine(DF.out _ _ _ _ hp.out (Nat.le_refl _) HO.out).mono ?_
  rintro e w3 ⟨u3,rfl,ho3,f3,-⟩
  have D3:=hid (D2.out.step f3 (fun g hg=>by have:=z1j HO.out hg;omega))
  have HO3:=hid ho3
  obtain⟨U3,cu3,rfl,-⟩:=z06 ho3
  clear d0 d1 d2 d3 d4 ho3
  obtain⟨d0,d1,d2,d3,d4⟩:=five D3.out.b
  have hne1:¬w.heap.size=w.heap.size+1+1:=by omega
  have hne2:¬w.heap.size+1+1=w.heap.size:=by omega
  go_wp2
  go_region_held3 (fun wx=>wx.cell? ⟨w.heap.size,2,none⟩=some (.slice A1 x.list.length c1)) (go_keep) (first|(go_at_call 228;(refine(OF.out _ _ _ (show w3.drew.ownsRow _ _ _ _ _ _ from HO3.out)).mono ?_);rintro e w5 ⟨u5,rfl,hi,f5⟩;have D5:=hid (D3.out.go (z01 f5));clear d0 d1 d2 d3 d4 f5;obtain⟨d0,d1,d2,d3,d4⟩:=five D5.out.b;have HI:=hid hi;obtain⟨P1,p1,P2,p2,P3,p3,rfl⟩:=hi.form;clear hi;have OO:=D5.out.o;rw[show w.heap.size+2=w.heap.size+1+1 from rfl] at OO;obtain⟨a0,a1,a2,a3,a4⟩:=five OO;obtain⟨b0,b2,b3,b4,b5⟩:=z10 OO;clear OO))
  go_wp2
  refine bodyPost_ret (v:=.tuple #[.agg #[.int .i64 y.kind,.string y.text,.slice P1 y.list.length p1,.slice P2 y.pairs.length p2,.slice P3 y.scores.length p3],.int .i64 (IntKind.i64.wrap ((x.list.length:Int) - (r.length:Int))),.int .i64 0]) (by simp[results,Tryz.results186,go_sem,a0,a1,a2,a3,a4]) rfl ?_
  exact⟨_,by rw[HW.out],(z1q HI.out (by omega) _ _ _ _ _).less (by omega),D5.out.end5 _ _ _ _ _⟩
 ·rw[EY.out,EK.out,if_neg ha,if_neg ha]
  have q2:(z02 2 x != 0)=true:=by simpa using ha
  clear EY EK ha
  generalize z02 2 x=r at *
  go_enter Tryz.func186,Tryz.ntmps186
  go_wp2_with fail
  refine(RD.out _ D0.out.f).mono ?_
  rintro e w1 ⟨rfl,f1⟩
  have D1:=hid (D0.out.go f1)
  clear d0 d1 d2 d3 d4
  have OO:=D1.out.o
  rw[show w.heap.size+2=w.heap.size+1+1 from rfl] at OO
  obtain⟨a0,a1,a2,a3,a4⟩:=five OO
  obtain⟨b0,b2,b3,b4,b5⟩:=z10 OO
  clear OO
  go_wp2
  refine bodyPost_ret (v:=.tuple #[.agg #[.int .i64 0,.string ⟨#[]⟩,.slice none 0 0,.slice none 0 0,.slice none 0 0],.int .i64 0,.int .i64 r]) (by simp[results,Tryz.results186,go_sem,a0,a1,a2,a3,a4]) rfl ?_
  exact⟨_,rfl,z0l.nothing _ _,D1.out.end5 _ _ _ _ _⟩
theorem zkx(left:Bool)(t:ByteArray)(ht:(left=true∧t=⟨#[108,112,117,115,104]⟩)∨(left=false∧t=⟨#[114,112,117,115,104]⟩))(g B0:Nat)(sv:Value)(now:Int)(lv:Value)(l:List ByteArray)(s:List Ent)(c0:ByteArray)(w:World)(ok:z1m s)(hn:2≤l.length)(h12:l.length≤11)(hz:∀t∈l,t.size≤60)(h:Dr g B0 sv now lv l s w) :
  Calls prog 130 #[.pointer (some ⟨g,0,none⟩),.string t] w (ChD g B0 B0 sv now lv l (doC (if left=true then .lpush else .rpush) s now (c0 :: l)) w):=by
 have hr:=ok.rise
 have hs16:=ok.le
 have DI:=zDI hr hs16 h
 have LS:=hid (z0a (z07 ok) now (wd l 0)).item
 have hzw:∀i,(wd l i).size≤60:=z0s hz
 have EP:doC (if left=true then .lpush else .rpush) s now (c0 :: l)=fin s now (wd l 0) (z8p (z00 s now (wd l 0)).item left (l.drop 1)) (z00 s now (wd l 0)).til true false (z14 (z00 s now (wd l 0)).item (l.drop 1)) (z0h (zbe (z00 s now (wd l 0)).item left (l.drop 1))):=by cases left <;> rfl
 have SY:=hid (show(z8p (z00 s now (wd l 0)).item left (l.drop 1)).Small from zi9 _ _ _)
 have htl:(l.drop 1).length=l.length - 1:=by rw[List.length_drop]
 have OP:=hid (fun W u A c (k:z0q W W.heap.size u (z00 s now (wd l 0)).item) (q:Sl W W.heap.size 1 (.slice A (l.length - 1) c) (l.length - 1) (z03 (l.drop 1)))=>(show Calls prog 181 #[u,.bool left,.slice A (l.length - 1) c] W (z4k (zbe (z00 s now (wd l 0)).item left (l.drop 1)) (z14 (z00 s now (wd l 0)).item (l.drop 1)) (z8p (z00 s now (wd l 0)).item left (l.drop 1)) W) from by
  rw[←htl] at q ⊢
  exact zgm (z00 s now (wd l 0)).item u left (l.drop 1) A c W W.heap.size LS.out (Nat.le_refl _) k (by omega) q))
 clear htl
 have CH:=zCH g B0 sv now lv l s w (z8p (z00 s now (wd l 0)).item left (l.drop 1)) (z0h (zbe (z00 s now (wd l 0)).item left (l.drop 1))) (z14 (z00 s now (wd l 0)).item (l.drop 1)) ok (by omega) SY
 rw[EP]
 clear EP SY
 have H:=hid h
 have hlt:=h.lt
 have hbz:=h.bz
 obtain⟨SA,sc,rfl⟩:=h.sform
 obtain⟨LA,lc,rfl⟩:=h.lform
 obtain⟨b,off,rfl,hb,hc,hm,hat⟩:=h.word (by omega)
 have HAT:=hid hat
 have DG:=hid (fun W (hW:Fr [] w W)=>(h.go hW).three)
 unfold maxLen at hm
 clear h hr hat hzw ok
 generalize fin s now (wd l 0) (z8p (z00 s now (wd l 0)).item left (l.drop 1)) (z00 s now (wd l 0)).til true false (z14 (z00 s now (wd l 0)).item (l.drop 1)) (z0h (zbe (z00 s now (wd l 0)).item left (l.drop 1)))=pp at *
 generalize z8p (z00 s now (wd l 0)).item left (l.drop 1)=y at *
 generalize zbe (z00 s now (wd l 0)).item left (l.drop 1)=nn at *
 generalize z14 (z00 s now (wd l 0)).item (l.drop 1)=cc at *
 generalize (z00 s now (wd l 0)).item=x at *
 have sx1:(1:Int)≤(l.length:Int):=by omega
 have sx2:(l.length:Int)≤(lc:Int):=by omega
 have sx3:¬lc=1:=by omega
 have sx4:(1:Int)≤(lc:Int):=by omega
 have SLT:=hid (fun W (hW:Fr [] w W)=>zah ((H.out.go hW).l.more (H.out.go hW).bz) (by omega) sx3)
 have F0:=zF w
 have Q0:=zQ w
 obtain⟨d0,d1,d2⟩:=DG.out _ F0.out
 have dw:=F0.out.cell (HAT.out 0 (by omega)) (by simp)
 rw[Nat.add_zero] at dw
 rcases ht with⟨rfl,rfl⟩|⟨rfl,rfl⟩
 all_goals
  go_enter Tryz.func130,Tryz.ntmps130
  go_wp2_with fail
  refine(DI.out _ F0.out).mono ?_
  rintro e1 w1 ⟨xv,rfl,hi,f1⟩
  have F1:=hid (F0.out.trans f1)
  have Q1:=hid (Q0.out.fr f1 (by simp))
  have HI:=hid hi
  obtain⟨X1,x1,X2,x2,X3,x3,rfl⟩:=hi.form
  have hz1:=f1.size
  simp at hz1
  clear f1 hi d0 d1 d2 dw
  have C1:=zC1 Q1 HI H F1
  have C2:=hid (C1.out.go ((Fr.refl [] _).alloc (.cells #[.int .i64 0,.string ⟨#[]⟩,.slice none 0 0,.slice none 0 0,.slice none 0 0] 43)))
  obtain⟨d0,d1,d2,d3,d4⟩:=five C1.out.b
  have d5:=(C1.out.d).three.2.2
  obtain⟨h0,h1,h2,h3,h4⟩:=five C2.out.b
  have h5:=(C2.out.d).three.2.2
  have V2:=hid (z3s w1 (.cells #[.int .i64 x.kind,.string x.text,.slice X1 x.list.length x1,.slice X2 x.pairs.length x2,.slice X3 x.scores.length x3] 43) 43 [.int .i64 0,.string ⟨#[]⟩,.slice none 0 0,.slice none 0 0,.slice none 0 0])
  have hb1:¬g=w1.heap.size+1:=by have:=C1.out.d.lt;simp at this;omega
  have hb2:¬w1.heap.size+1=g:=by have:=C1.out.d.lt;simp at this;omega
  have hb3:¬b=w1.heap.size+1:=by omega
  have hb4:¬w1.heap.size+1=b:=by omega
  go_upto_region 5 with fail
  go_cut [6,7,8] (fun pb pn pe wx=>pn=.int .i64 nn∧pe=.int .i64 cc∧z8t B0 y (w1.alloc (.cells #[.int .i64 x.kind,.string x.text,.slice X1 x.list.length x1,.slice X2 x.pairs.length x2,.slice X3 x.scores.length x3] 43)) pb wx)
  case first=>
   go_region_held3 (fun wx=>wx.cell? ⟨w1.heap.size,0,none⟩=some (.int .i64 x.kind)∧wx.cell? ⟨w1.heap.size,1,none⟩=some (.string x.text)∧wx.cell? ⟨w1.heap.size,2,none⟩=some (.slice X1 x.list.length x1)∧wx.cell? ⟨w1.heap.size,3,none⟩=some (.slice X2 x.pairs.length x2)∧wx.cell? ⟨w1.heap.size,4,none⟩=some (.slice X3 x.scores.length x3)∧wx.cell? ⟨g,2,none⟩=some (.slice (some ⟨b,off,none⟩) l.length lc)) (go_keep) ((first|fail|(go_at_call 181;first|(refine(OP.out _ _ _ _ C1.out.drew.i.item (SLT.out _ C1.out.drew.f)).mono ?_;rintro e3 w3 ⟨yv,rfl,hy,f3⟩;obtain⟨A1,c1,A2,c2,A3,c3,rfl⟩:=hy.form;have C3:=hid (C1.out.go (z01 f3));have F3:=hid (z01 f3);have HY:=hid (hy.less (show B0≤_ from C1.out.d.bz));obtain⟨k0,k1,k2,k3,k4⟩:=five C3.out.b;have k5:=(C3.out.d).three.2.2;clear f3 hy d0 d1 d2 d3 d4 d5 h0 h1 h2 h3 h4 h5)|(refine(OP.out _ _ _ _ C2.out.drew.i.item (SLT.out _ C2.out.drew.f)).mono ?_;rintro e3 w3 ⟨yv,rfl,hy,f3⟩;obtain⟨A1,c1,A2,c2,A3,c3,rfl⟩:=hy.form;have C3:=hid (C2.out.go (z01 f3));have F3:=hid (z2g (z01 f3));have V3:=hid (V2.out.fr (z01 f3) (by simp));have y7:=five V3.out;have z7:=z10 V3.out;have HY:=hid (hy.less (show B0≤_ from C2.out.d.bz));obtain⟨k0,k1,k2,k3,k4⟩:=five C3.out.b;have k5:=(C3.out.d).three.2.2;clear f3 hy d0 d1 d2 d3 d4 d5 h0 h1 h2 h3 h4 h5))))
   all_goals
    go_wp2
    go_meet
    case rel=>first|with_reducible exact⟨rfl,rfl,z8t.new HY.out F3.out⟩|exact⟨rfl,rfl,z8t.put HY.out F3.out (by simp) V3.out⟩
  clear d0 d1 d2 d3 d4 d5 h0 h1 h2 h3 h4 h5
  obtain⟨rfl,rfl,gb,A1,c1,A2,c2,A3,c3,rfl,hgb,hw,hy,hf⟩:=hcut
  have HY:=hid hy
  have VB:=hid hw
  have C4:=hid (C1.out.go hf)
  have hgz:w.heap.size < gb:=by have:=C1.out.f.size;simp at hgb;have:=C1.out.gx;omega
  clear hw hy hf hgb
  obtain⟨m0,m1,m2,m3,m4⟩:=five VB.out
  go_upto_region 6 with fail
  go_region_held3 (fun wx=>wx.cell? ⟨gb,0,none⟩=some (.int .i64 y.kind)∧wx.cell? ⟨gb,1,none⟩=some (.string y.text)∧wx.cell? ⟨gb,2,none⟩=some (.slice A1 y.list.length c1)∧wx.cell? ⟨gb,3,none⟩=some (.slice A2 y.pairs.length c2)∧wx.cell? ⟨gb,4,none⟩=some (.slice A3 y.scores.length c3)) (go_keep) ((first|(go_at_call 171;refine(z0j _ _).mono ?_;rintro e5 w5 ⟨rfl,f5⟩;have C5:=hid (C4.out.go (z01 f5));have VB5:=hid (VB.out.fr (z01 f5) (by simp));have HY5:=hid (HY.out.go (z01 f5));clear f5 m0 m1 m2 m3 m4;obtain⟨m0,m1,m2,m3,m4⟩:=five VB5.out)|(go_at_call 170;refine(CH.out _ _ _ C5.out.d HY5.out (z1f.bare _ _ _ _ _)).mono ?_;rintro e6 w6 ⟨u,rfl,hu,f6,hd⟩;obtain⟨R,rc,rfl⟩:=hu.form;have VB6:=hid (VB5.out.fr f6 (fun hm=>by have:=(H.out.low _ hm).2;omega));have Q6:=hid (C5.out.q.fr f6 (fun hm=>by have:=(H.out.low _ hm).2;omega));have HU:=hid hu;have HD:=hid hd;have F6:=hid (C5.out.f.up.trans f6);clear f6 hu hd m0 m1 m2 m3 m4;obtain⟨m0,m1,m2,m3,m4⟩:=five VB6.out;obtain⟨y0,y1,y2,y3⟩:=four Q6.out;obtain⟨z0,z1,z2,z3⟩:=z0w Q6.out;have hgz1:¬gb=w.heap.size:=(by omega);have hgz2:¬w.heap.size=gb:=(by omega))))
  obtain⟨sp,pr⟩:=pp
  go_wp2
  refine bodyPost_ret (v:=.agg #[.int .i64 pr.kind,.string pr.text,.int .i64 pr.n,.slice R pr.list.length rc]) (by simp[results,Tryz.results130,go_sem,y0,y1,y2,y3]) rfl ?_
  exact ChD.fin4 HU.out F6.out Q6.out hbz HD.out
theorem zvv(g B0:Nat)(sv:Value)(now:Int)(lv:Value)(l:List ByteArray)(s:List Ent)(c0:ByteArray)(w:World)(ok:z1m s)(hn:2≤l.length)(h12:l.length≤11)(hz:∀t∈l,t.size≤60)(h:Dr g B0 sv now lv l s w) :
  Calls prog 130 #[.pointer (some ⟨g,0,none⟩),.string ⟨#[108,114,101,109]⟩] w (ChD g B0 B0 sv now lv l (doC .lrem s now (c0 :: l)) w):=by
 have hr:=ok.rise
 have hs16:=ok.le
 have DI:=zDI hr hs16 h
 have LS:=hid (z0a (z07 ok) now (wd l 0)).item
 have hzw:∀i,(wd l i).size≤60:=z0s hz
 have EP:doC .lrem s now (c0 :: l)=fin s now (wd l 0) (zmz (z00 s now (wd l 0)).item (wd l 1)) (z00 s now (wd l 0)).til true false (z02 2 (z00 s now (wd l 0)).item) (z0h (zud (z00 s now (wd l 0)).item (wd l 1))):=rfl
 have SY:=hid (show(zmz (z00 s now (wd l 0)).item (wd l 1)).Small from zmt _ _)
 have OP:=hid (fun W u (k:z0q W W.heap.size u (z00 s now (wd l 0)).item)=>zdo (z00 s now (wd l 0)).item u (wd l 1) W W.heap.size LS.out (Nat.le_refl _) k)
 have CH:=zCH g B0 sv now lv l s w (zmz (z00 s now (wd l 0)).item (wd l 1)) (z0h (zud (z00 s now (wd l 0)).item (wd l 1))) (z02 2 (z00 s now (wd l 0)).item) ok (by omega) SY
 rw[EP]
 clear EP SY
 have H:=hid h
 have hlt:=h.lt
 have hbz:=h.bz
 obtain⟨SA,sc,rfl⟩:=h.sform
 obtain⟨LA,lc,rfl⟩:=h.lform
 obtain⟨b,off,rfl,hb,hc,hm,hat⟩:=h.word (by omega)
 have HAT:=hid hat
 have DG:=hid (fun W (hW:Fr [] w W)=>(h.go hW).three)
 unfold maxLen at hm
 clear h hr hat hzw ok
 generalize fin s now (wd l 0) (zmz (z00 s now (wd l 0)).item (wd l 1)) (z00 s now (wd l 0)).til true false (z02 2 (z00 s now (wd l 0)).item) (z0h (zud (z00 s now (wd l 0)).item (wd l 1)))=pp at *
 generalize zmz (z00 s now (wd l 0)).item (wd l 1)=y at *
 generalize zud (z00 s now (wd l 0)).item (wd l 1)=nn at *
 generalize z02 2 (z00 s now (wd l 0)).item=cc at *
 generalize (z00 s now (wd l 0)).item=x at *
 have ix1:(1:Int) < (l.length:Int):=by omega
 have F0:=zF w
 have Q0:=zQ w
 obtain⟨d0,d1,d2⟩:=DG.out _ F0.out
 have dw:=F0.out.cell (HAT.out 0 (by omega)) (by simp)
 rw[Nat.add_zero] at dw
 go_enter Tryz.func130,Tryz.ntmps130
 go_wp2_with fail
 refine(DI.out _ F0.out).mono ?_
 rintro e1 w1 ⟨xv,rfl,hi,f1⟩
 have F1:=hid (F0.out.trans f1)
 have Q1:=hid (Q0.out.fr f1 (by simp))
 have HI:=hid hi
 obtain⟨X1,x1,X2,x2,X3,x3,rfl⟩:=hi.form
 have hz1:=f1.size
 simp at hz1
 clear f1 hi d0 d1 d2 dw
 have C1:=zC1 Q1 HI H F1
 have C2:=hid (C1.out.go ((Fr.refl [] _).alloc (.cells #[.int .i64 0,.string ⟨#[]⟩,.slice none 0 0,.slice none 0 0,.slice none 0 0] 43)))
 obtain⟨d0,d1,d2,d3,d4⟩:=five C1.out.b
 have d5:=(C1.out.d).three.2.2
 have d6:=C1.out.f.cell (HAT.out 1 (by omega)) (by simp)
 obtain⟨h0,h1,h2,h3,h4⟩:=five C2.out.b
 have h5:=(C2.out.d).three.2.2
 have h6:=C2.out.f.cell (HAT.out 1 (by omega)) (by simp)
 have V2:=hid (z3s w1 (.cells #[.int .i64 x.kind,.string x.text,.slice X1 x.list.length x1,.slice X2 x.pairs.length x2,.slice X3 x.scores.length x3] 43) 43 [.int .i64 0,.string ⟨#[]⟩,.slice none 0 0,.slice none 0 0,.slice none 0 0])
 have hb1:¬g=w1.heap.size+1:=by have:=C1.out.d.lt;simp at this;omega
 have hb2:¬w1.heap.size+1=g:=by have:=C1.out.d.lt;simp at this;omega
 have hb3:¬b=w1.heap.size+1:=by omega
 have hb4:¬w1.heap.size+1=b:=by omega
 go_upto_region 18 with fail
 go_cut [14,15,16] (fun pb pn pe wx=>pn=.int .i64 nn∧pe=.int .i64 cc∧z8t B0 y (w1.alloc (.cells #[.int .i64 x.kind,.string x.text,.slice X1 x.list.length x1,.slice X2 x.pairs.length x2,.slice X3 x.scores.length x3] 43)) pb wx)
 case first=>
  go_region_held3 (fun wx=>wx.cell? ⟨w1.heap.size,0,none⟩=some (.int .i64 x.kind)∧wx.cell? ⟨w1.heap.size,1,none⟩=some (.string x.text)∧wx.cell? ⟨w1.heap.size,2,none⟩=some (.slice X1 x.list.length x1)∧wx.cell? ⟨w1.heap.size,3,none⟩=some (.slice X2 x.pairs.length x2)∧wx.cell? ⟨w1.heap.size,4,none⟩=some (.slice X3 x.scores.length x3)∧wx.cell? ⟨g,2,none⟩=some (.slice (some ⟨b,off,none⟩) l.length lc)∧wx.cell? ⟨b,off+1,none⟩=some (.string (wd l 1))) (go_keep) ((first|fail|(go_at_call 186;first|(refine(OP.out _ _ C1.out.drew.i.item).mono ?_;rintro e3 w3 ⟨yv,rfl,hy,f3⟩;obtain⟨A1,c1,A2,c2,A3,c3,rfl⟩:=hy.form;have C3:=hid (C1.out.go (z01 f3));have F3:=hid (z01 f3);have HY:=hid (hy.less (show B0≤_ from C1.out.d.bz));obtain⟨k0,k1,k2,k3,k4⟩:=five C3.out.b;have k5:=(C3.out.d).three.2.2;have k6:=C3.out.f.cell (HAT.out 1 (by omega)) (by simp);clear f3 hy d0 d1 d2 d3 d4 d5 d6 h0 h1 h2 h3 h4 h5 h6)|(refine(OP.out _ _ C2.out.drew.i.item).mono ?_;rintro e3 w3 ⟨yv,rfl,hy,f3⟩;obtain⟨A1,c1,A2,c2,A3,c3,rfl⟩:=hy.form;have C3:=hid (C2.out.go (z01 f3));have F3:=hid (z2g (z01 f3));have V3:=hid (V2.out.fr (z01 f3) (by simp));have y7:=five V3.out;have z7:=z10 V3.out;have HY:=hid (hy.less (show B0≤_ from C2.out.d.bz));obtain⟨k0,k1,k2,k3,k4⟩:=five C3.out.b;have k5:=(C3.out.d).three.2.2;have k6:=C3.out.f.cell (HAT.out 1 (by omega)) (by simp);clear f3 hy d0 d1 d2 d3 d4 d5 d6 h0 h1 h2 h3 h4 h5 h6))))
  all_goals
   go_wp2
   go_meet
   case rel=>first|with_reducible exact⟨rfl,rfl,z8t.new HY.out F3.out⟩|exact⟨rfl,rfl,z8t.put HY.out F3.out (by simp) V3.out⟩
 clear d0 d1 d2 d3 d4 d5 d6 h0 h1 h2 h3 h4 h5 h6
 obtain⟨rfl,rfl,gb,A1,c1,A2,c2,A3,c3,rfl,hgb,hw,hy,hf⟩:=hcut
 have HY:=hid hy
 have VB:=hid hw
 have C4:=hid (C1.out.go hf)
 have hgz:w.heap.size < gb:=by have:=C1.out.f.size;simp at hgb;have:=C1.out.gx;omega
 clear hw hy hf hgb
 obtain⟨m0,m1,m2,m3,m4⟩:=five VB.out
 go_upto_region 19 with fail
 go_region_held3 (fun wx=>wx.cell? ⟨gb,0,none⟩=some (.int .i64 y.kind)∧wx.cell? ⟨gb,1,none⟩=some (.string y.text)∧wx.cell? ⟨gb,2,none⟩=some (.slice A1 y.list.length c1)∧wx.cell? ⟨gb,3,none⟩=some (.slice A2 y.pairs.length c2)∧wx.cell? ⟨gb,4,none⟩=some (.slice A3 y.scores.length c3)) (go_keep) ((first|(go_at_call 171;refine(z0j _ _).mono ?_;rintro e5 w5 ⟨rfl,f5⟩;have C5:=hid (C4.out.go (z01 f5));have VB5:=hid (VB.out.fr (z01 f5) (by simp));have HY5:=hid (HY.out.go (z01 f5));clear f5 m0 m1 m2 m3 m4;obtain⟨m0,m1,m2,m3,m4⟩:=five VB5.out)|(go_at_call 170;refine(CH.out _ _ _ C5.out.d HY5.out (z1f.bare _ _ _ _ _)).mono ?_;rintro e6 w6 ⟨u,rfl,hu,f6,hd⟩;obtain⟨R,rc,rfl⟩:=hu.form;have VB6:=hid (VB5.out.fr f6 (fun hm=>by have:=(H.out.low _ hm).2;omega));have Q6:=hid (C5.out.q.fr f6 (fun hm=>by have:=(H.out.low _ hm).2;omega));have HU:=hid hu;have HD:=hid hd;have F6:=hid (C5.out.f.up.trans f6);clear f6 hu hd m0 m1 m2 m3 m4;obtain⟨m0,m1,m2,m3,m4⟩:=five VB6.out;obtain⟨y0,y1,y2,y3⟩:=four Q6.out;obtain⟨z0,z1,z2,z3⟩:=z0w Q6.out;have hgz1:¬gb=w.heap.size:=(by omega);have hgz2:¬w.heap.size=gb:=(by omega))))
 obtain⟨sp,pr⟩:=pp
 go_wp2
 refine bodyPost_ret (v:=.agg #[.int .i64 pr.kind,.string pr.text,.int .i64 pr.n,.slice R pr.list.length rc]) (by simp[results,Tryz.results130,go_sem,y0,y1,y2,y3]) rfl ?_
 exact ChD.fin4 HU.out F6.out Q6.out hbz HD.out
end Go.Proofs.YtamgdmiopinidaaGreatDoor
