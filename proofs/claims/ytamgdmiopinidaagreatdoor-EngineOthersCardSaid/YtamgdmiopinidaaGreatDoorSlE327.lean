/- Contracts that the proof of E3 uses. No condition beyond those in each theorem. -/
import Derived.Test.YtamgdmiopinidaaGreatDoorSlE325
set_option linter.unusedVariables false
set_option linter.unusedSimpArgs false
set_option maxHeartbeats 8000000
set_option maxRecDepth 100000
namespace Go.Proofs.YtamgdmiopinidaaGreatDoor
open Lib (hid)
open Go.Proofs.Tryz (prog)
open Go.RowKit
theorem zi7(x:Itm)(v:Value)(f:ByteArray)(w:World)(B:Nat)(hs:x.Small)(hB:B≤w.heap.size)(h:z0q w B v x) :
  Calls prog 195 #[v,.string f] w (zu3 (zr5 x f) (z5k x f) w):=by
 have RD:=hid (fun W (hf:Fr [] w W)=>zad x v W B hs (Nat.le_trans hB hf.size) (h.fr hf hB (by simp)))
 obtain⟨A1,c1,A2,c2,A3,c3,rfl,h1,h2,h3⟩:=h
 have H2:=hid h2
 have D0:=hid (BX.new w (.int .i64 x.kind) (.string x.text) (.slice A1 x.list.length c1) (.slice A2 x.pairs.length c2) (.slice A3 x.scores.length c3))
 obtain⟨d0,d1,d2,d3,d4⟩:=five D0.out.b
 have EC:=hid (show z5k x f=if z02 4 x≠0 then z02 4 x else match zpl Prod.fst x.pairs f with|some _=>0|none=>5 from rfl)
 have ES:=hid (show zr5 x f=if z02 4 x≠0 then ⟨#[]⟩ else match zpl Prod.fst x.pairs f with|some q=>q.2|none=>⟨#[]⟩ from rfl)
 have hs2:=hs.pairs
 clear h1 h2 h3 hs
 by_cases ha:z02 4 x=0
 ·have hr:=z83 ha
  rw[ha] at RD
  have FD:=hid (fun W (hW:Fr [] w W)=>zhl x.pairs f A2 c2 B W hr hs2 (Nat.le_trans hB hW.size) (H2.out.fr hW hB (by simp)))
  by_cases hh:z5r Prod.fst x.pairs f=true
  ·obtain⟨e1,e2⟩:=zs1 Prod.fst hr hh
   obtain⟨q,hq⟩:=Option.isSome_iff_exists.1 e2
   rw[hq] at e1
   have E1:=hid (show z5k x f=0 from by rw[EC.out,if_neg (by simpa using ha),hq])
   have E2:=hid (show zr5 x f=q.2 from by rw[ES.out,if_neg (by simpa using ha),hq])
   rw[E1.out,E2.out]
   rw[hh] at FD
   have hlt:=(List.getElem?_eq_some_iff.1 e1).1
   obtain⟨b,off,rfl,hb,hlc,hcm,hcell⟩:=H2.out.at_ (by omega)
   have HC:=hid (hcell _ _ (z0g _ _ q e1).2)
   unfold maxLen at hcm
   clear hr ha hh e1 e2 hq EC ES E1 E2 hcell
   generalize z1z Prod.fst x.pairs f=i at *
   rw[Nat.mul_comm 2 i] at HC
   go_enter Tryz.func195,Tryz.ntmps195
   go_wp2_with fail
   refine(RD.out _ D0.out.f).mono ?_
   rintro e w1 ⟨rfl,f1⟩
   have D1:=hid (D0.out.go f1)
   clear d0 d1 d2 d3 d4
   obtain⟨d0,d1,d2,d3,d4⟩:=five D1.out.b
   go_wp2_with fail
   refine(FD.out _ D1.out.f).mono ?_
   rintro e w2 ⟨rfl,f2⟩
   have D2:=hid (D1.out.go f2)
   clear d0 d1 d2 d3 d4
   obtain⟨d0,d1,d2,d3,d4⟩:=five D2.out.b
   have hc1:w2.cell? ⟨b,off+i * 2+1,none⟩=some (.string q.2):=D2.out.f.cell HC.out (by simp)
   go_wp2
   go_ret2
   exact⟨rfl,D2.out.f⟩
  ·have hh':z5r Prod.fst x.pairs f=false:=by simpa using hh
   have hq:=zpi Prod.fst hr hh'
   have E1:=hid (show z5k x f=5 from by rw[EC.out,if_neg (by simpa using ha),hq])
   have E2:=hid (show zr5 x f=⟨#[]⟩ from by rw[ES.out,if_neg (by simpa using ha),hq])
   rw[E1.out,E2.out]
   rw[hh'] at FD
   clear hr ha hh hh' hq EC ES E1 E2
   generalize z1z Prod.fst x.pairs f=i at *
   go_enter Tryz.func195,Tryz.ntmps195
   go_wp2_with fail
   refine(RD.out _ D0.out.f).mono ?_
   rintro e w1 ⟨rfl,f1⟩
   have D1:=hid (D0.out.go f1)
   clear d0 d1 d2 d3 d4
   obtain⟨d0,d1,d2,d3,d4⟩:=five D1.out.b
   go_wp2_with fail
   refine(FD.out _ D1.out.f).mono ?_
   rintro e w2 ⟨rfl,f2⟩
   go_wp2
   go_ret2
   exact⟨rfl,D1.out.f.trans f2⟩
 ·have E1:=hid (show z5k x f=z02 4 x from by rw[EC.out,if_pos ha])
  have E2:=hid (show zr5 x f=⟨#[]⟩ from by rw[ES.out,if_pos ha])
  rw[E1.out,E2.out]
  have q:(z02 4 x != 0)=true:=by simpa using ha
  clear ha EC ES E1 E2
  generalize z02 4 x=r at *
  go_enter Tryz.func195,Tryz.ntmps195
  go_wp2_with fail
  refine(RD.out _ D0.out.f).mono ?_
  rintro e w1 ⟨rfl,f1⟩
  go_wp2
  go_ret2
  exact⟨rfl,D0.out.f.trans f1⟩
theorem zay(x:Itm)(v:Value)(l:List ByteArray)(A:Option Addr)(c:Nat)(w:World)(B:Nat)(hs:x.Small)(hB:B≤w.heap.size)(h:z0q w B v x)(hl:l.length≤281474976710656)(hL:Sl w B 1 (.slice A l.length c) l.length (z03 l)) :
  Calls prog 196 #[v,.slice A l.length c] w (z4k (zdj x l) (z02 4 x) (z9j x l) w):=by
 have RD:=hid (fun W (hf:Fr [] w W)=>zad x v W B hs (Nat.le_trans hB hf.size) (h.fr hf hB (by simp)))
 obtain⟨A1,c1,A2,c2,A3,c3,rfl,h1,h2,h3⟩:=h
 have H2:=hid h2
 have HL:=hid hL
 have D0:=hid (BO.newL w (.int .i64 x.kind) (.string x.text) (.slice A1 x.list.length c1) (.slice A2 x.pairs.length c2) (.slice A3 x.scores.length c3) (.slice A l.length c))
 obtain⟨d0,d1,d2,d3,d4⟩:=five D0.out.b
 have S0:=hid (show(((w.alloc (.cells #[.int .i64 x.kind,.string x.text,.slice A1 x.list.length c1,.slice A2 x.pairs.length c2,.slice A3 x.scores.length c3] 43)).alloc (.cells #[.slice A l.length c] 24)).alloc (.cells #[.int .i64 0,.string ⟨#[]⟩,.slice none 0 0,.slice none 0 0,.slice none 0 0] 43)).cell? ⟨w.heap.size+1,0,none⟩=some (.slice A l.length c) from by
  have:=((Whole.new (w.alloc (.cells #[.int .i64 x.kind,.string x.text,.slice A1 x.list.length c1,.slice A2 x.pairs.length c2,.slice A3 x.scores.length c3] 43)) 24 [.slice A l.length c]).alloc (.cells #[.int .i64 0,.string ⟨#[]⟩,.slice none 0 0,.slice none 0 0,.slice none 0 0] 43)).cell 0
  simpa using this)
 have EY:=hid (show z9j x l=if z02 4 x=0 then ofP (zam x l) else z2r 0 from rfl)
 have EK:=hid (show zdj x l=if z02 4 x=0 then (x.pairs.length:Int) - (zam x l).length else 0 from rfl)
 clear h1 h2 h3 hs hL
 by_cases ha:z02 4 x=0
 ·have hok:=z18 ha
  rw[EY.out,EK.out,if_pos ha,if_pos ha,ha]
  rw[ha] at RD
  have h24:x.pairs.length≤24:=by have:=hok.le24;unfold many at this;omega
  have hrl:(zam x l).length≤x.pairs.length:=List.length_filter_le _ _
  have OF:=hid (fun W base u hu=>zef (zam x l) base u W (by omega) (fun y hy=>by have:=hok.fields y (List.mem_filter.1 hy).1;omega) hu)
  have CL:=hid (fun W (hW:Fr [] w W)=>zap x.pairs.length (z0e x.pairs) A2 c2 W B (by omega) (Nat.le_trans hB hW.size) (H2.out.fr hW hB (by simp)) (z9q _))
  have DF:=hid (fun W base u D (hp:zlv 247 #[.pointer (some ⟨w.heap.size+1,0,none⟩)] (fun x=>l.any fun y=>decide (y=x.1)) D W) hD hu=>(show Calls prog 246 #[u,.func (Fn.func 247) #[] #[.pointer (some ⟨w.heap.size+1,0,none⟩)]] W (zhy (zam x l) base u W) from zpm 247 #[.pointer (some ⟨w.heap.size+1,0,none⟩)] (z1x Tryz.func247 (by kernel_rfl) rfl) (fun x=>l.any fun y=>decide (y=x.1)) D x.pairs base u W hp hD (by omega) hu))
  clear hok EY EK ha
  generalize ofP (zam x l)=y at *
  have HW:=hid (show IntKind.i64.wrap ((x.pairs.length:Int) - ((zam x l).length:Int))=(x.pairs.length:Int) - (zam x l).length from IntWalk.i64_in _ (by omega))
  generalize zam x l=r at *
  go_enter Tryz.func196,Tryz.ntmps196
  go_wp2_with fail
  refine(RD.out _ D0.out.f).mono ?_
  rintro e w1 ⟨rfl,f1⟩
  have D1:=hid (D0.out.go f1)
  have S1:=hid (f1.cell S0.out (by simp))
  have hz1:=D1.out.lt
  clear d0 d1 d2 d3 d4
  obtain⟨d0,d1,d2,d3,d4⟩:=five D1.out.b
  go_wp2_with fail
  refine(CL.out _ D1.out.f).mono ?_
  rintro e w2 ⟨u,rfl,ho,f2⟩
  have D2:=hid (D1.out.go f2)
  have S2:=hid (f2.cell S1.out (by simp))
  have HO:=hid ho
  obtain⟨U,cu,rfl,-⟩:=z06 ho
  have hp:=hid (zmd l A c (w.heap.size+1) w1.heap.size w2 hl f2.size (((HL.out.fr D1.out.f hB (by simp)).more (Nat.le_trans hB D1.out.f.size)).fr f2 (Nat.le_refl _) (by simp)) S2.out (by omega))
  clear d0 d1 d2 d3 d4 ho
  obtain⟨d0,d1,d2,d3,d4⟩:=five D2.out.b
  go_wp2_with fail
  refine(DF.out _ _ _ _ hp.out (Nat.le_refl _) HO.out).mono ?_
  rintro e w3 ⟨u3,rfl,ho3,f3,-⟩
  have D3:=hid (D2.out.step f3 (fun g hg=>by have:=z1j HO.out hg;omega))
  have HO3:=hid ho3
  obtain⟨U3,cu3,rfl,-⟩:=z06 ho3
  clear d0 d1 d2 d3 d4 ho3
  obtain⟨d0,d1,d2,d3,d4⟩:=five D3.out.b
  have hne1:¬w.heap.size=w.heap.size+1+1:=by omega
  have hne2:¬w.heap.size+1+1=w.heap.size:=by omega
  go_wp2
  go_region_held3 (fun wx=>wx.cell? ⟨w.heap.size,3,none⟩=some (.slice A2 x.pairs.length c2)) (go_keep) (first|(go_at_call 245;(refine(OF.out _ _ _ (show w3.drew.ownsRow _ _ _ _ _ _ from HO3.out)).mono ?_);rintro e w5 ⟨u5,rfl,hi,f5⟩;have D5:=hid (D3.out.go (z01 f5));clear d0 d1 d2 d3 d4 f5;obtain⟨d0,d1,d2,d3,d4⟩:=five D5.out.b;have HI:=hid hi;obtain⟨P1,p1,P2,p2,P3,p3,rfl⟩:=hi.form;clear hi;have OO:=D5.out.o;rw[show w.heap.size+2=w.heap.size+1+1 from rfl] at OO;obtain⟨a0,a1,a2,a3,a4⟩:=five OO;obtain⟨b0,b2,b3,b4,b5⟩:=z10 OO;clear OO))
  go_wp2
  refine bodyPost_ret (v:=.tuple #[.agg #[.int .i64 y.kind,.string y.text,.slice P1 y.list.length p1,.slice P2 y.pairs.length p2,.slice P3 y.scores.length p3],.int .i64 (IntKind.i64.wrap ((x.pairs.length:Int) - (r.length:Int))),.int .i64 0]) (by simp[results,Tryz.results196,go_sem,a0,a1,a2,a3,a4]) rfl ?_
  exact⟨_,by rw[HW.out],(z1q HI.out (by omega) _ _ _ _ _).less (by omega),D5.out.end5 _ _ _ _ _⟩
 ·rw[EY.out,EK.out,if_neg ha,if_neg ha]
  have q2:(z02 4 x != 0)=true:=by simpa using ha
  clear EY EK ha
  generalize z02 4 x=r at *
  go_enter Tryz.func196,Tryz.ntmps196
  go_wp2_with fail
  refine(RD.out _ D0.out.f).mono ?_
  rintro e w1 ⟨rfl,f1⟩
  have D1:=hid (D0.out.go f1)
  clear d0 d1 d2 d3 d4
  have OO:=D1.out.o
  rw[show w.heap.size+2=w.heap.size+1+1 from rfl] at OO
  obtain⟨a0,a1,a2,a3,a4⟩:=five OO
  obtain⟨b0,b2,b3,b4,b5⟩:=z10 OO
  clear OO
  go_wp2
  refine bodyPost_ret (v:=.tuple #[.agg #[.int .i64 0,.string ⟨#[]⟩,.slice none 0 0,.slice none 0 0,.slice none 0 0],.int .i64 0,.int .i64 r]) (by simp[results,Tryz.results196,go_sem,a0,a1,a2,a3,a4]) rfl ?_
  exact⟨_,rfl,z0l.nothing _ _,D1.out.end5 _ _ _ _ _⟩
def zln(g:Nat)(lb:Array Value)(p:(Int×ByteArray)→Bool)(B:Nat)(w:World):Prop:=
 ∀W (x:(Int×ByteArray)),FrB [] B w W→Calls prog g (#[.agg #[.int .i64 x.1,.string x.2]]++lb) W fun e w'=>e=.returned (.bool (p x))∧Fr [] W w'
theorem zk1(g:Nat)(lb:Array Value)(eg:∀args w,(callFunc g args).run prog w=.ok (.enter g args) w)(p:(Int×ByteArray)→Bool)(D:Nat)(l:List (Int×ByteArray))(A:Option Addr)(c B:Nat)(w:World)(hp:zln g lb p D w)(hl:l.length≤281474976710656)(hB:B≤w.heap.size)
  (hsl:Sl w B 2 (.slice A l.length c) l.length (z08 l)) :
  Calls prog 219 #[.slice A l.length c,.func (Fn.func g) #[] lb] w fun e w'=>e=.returned (.int .i64 (z3c p l))∧Fr [] w w':=by
 have HS:=hid hsl
 have HP:=hid hp
 clear hsl hp
 go_enter Tryz.func219,Tryz.ntmps219
 go_wp2
 go_loopg [5,8] l.length (fun g u i wr=>∃(k:Nat),g=l.length - k∧k≤l.length∧i=.int .i64 k∧(∀j t,j < k→l[j]? = some t→p t=false)∧Fr [] w wr)
 case atStart=>exact⟨0,rfl,Nat.zero_le _,rfl,fun j t hj=>absurd hj (Nat.not_lt_zero _),Fr.refl _ _⟩
 case round=>
  obtain⟨k,rfl,hk,rfl,hno,hf⟩:=hrel
  by_cases hlt:k < l.length
  ·obtain⟨b,off,rfl,hb,hc,hm,hcell⟩:=HS.out.at_ (by omega)
   obtain⟨s,hs⟩:∃s,l[k]? = some s:=⟨_,List.getElem?_eq_getElem hlt⟩
   have hc1:wr.cell? ⟨b,off+2 * k,none⟩=some (.int .i64 s.1):=hf.cell (hcell _ _ (z0b l k s hs).1) (by simp)
   have hc2:wr.cell? ⟨b,off+2 * k+1,none⟩=some (.string s.2):=hf.cell (hcell _ _ (z0b l k s hs).2) (by simp)
   rw[Nat.mul_comm 2 k] at hc1 hc2
   have L:=hid (fun W (hW:Fr [] wr W)=>HP.out W s ((hf.toB D).trans (hW.toB D)))
   have HF:=hid hf
   have F1:=hid (Fr.refl [] wr)
   by_cases hq:p s=true
   ·have E:=hid (z2q hno hs hq)
    rw[hq] at L
    clear hno hcell hs hq hf
    go_wp2_with fail
    refine(L.out _ F1.out).mono ?_
    rintro e w1 ⟨rfl,h1⟩
    go_wp2
    go_ret
    rw[E.out]
    exact⟨rfl,HF.out.trans h1⟩
   ·have hq':p s=false:=by simpa using hq
    rw[hq'] at L
    have N:=hid (fun j t (hj:j < k+1) (ht:l[j]? = some t)=>(show p t=false by
     rcases Nat.lt_or_ge j k with h|h
     ·exact hno j t h ht
     ·have e:j=k:=by omega
      subst e
      rw[hs] at ht
      cases ht
      exact hq'))
    clear hno hcell hs hq hq' hf
    go_wp2_with fail
    refine(L.out _ F1.out).mono ?_
    rintro e w1 ⟨rfl,h1⟩
    go_wp2
    go_roundg (l.length - (k+1))
    case measure=>omega
    case rel=>exact⟨k+1,rfl,by omega,rfl,N.out,HF.out.trans h1⟩
  ·have E:=hid (z39 (q:=p) (l:=l) (fun j t ht=>hno j t (by have:=(List.getElem?_eq_some_iff.1 ht).1;omega) ht))
   clear hno
   go_wp2
   go_ret
   rw[E.out]
   exact⟨rfl,hf⟩
def zgq(ys:List (Int×ByteArray))(base:Nat)(v:Value)(w:World)(e:Ending)(w':World):Prop:=
 ∃v',e=.returned v'∧w'.ownsRow base 91 2 v' ys.length (z08 ys)∧Fr (z2l v) w w'∧v'.ownBlock=v.ownBlock
theorem zx2:∀w,(zeroValue 91).run prog w=.ok (.agg #[.int .i64 0,.string ⟨#[]⟩]) w:=fun w=>by kernel_rfl
theorem zoj(g:Nat)(lb:Array Value)(eg:∀args w,(callFunc g args).run prog w=.ok (.enter g args) w)(p:(Int×ByteArray)→Bool)(D:Nat)(l:List (Int×ByteArray))(base:Nat)(v:Value)(w:World)(hp:zln g lb p D w)(hD:D≤base)(hl:l.length≤1000000)
  (h:w.ownsRow base 91 2 v l.length (z08 l)) :
  Calls prog 255 #[v,.func (Fn.func g) #[] lb] w (zgq (l.filter fun x=>!p x) base v w):=by
 obtain⟨A,c,rfl,hA,hc,hm⟩:=z06 h
 have I:=hid (zk1 g lb eg p D l A c w.heap.size w hp (by omega) (Nat.le_refl _) (z0t h))
 rcases z6s p l with⟨e1,e2⟩|⟨k0,s0,e1,hk0,hK⟩
 ·rw[e1] at I
  have H:=hid h
  have E2:=hid e2
  clear h e1 e2 hp
  go_enter Tryz.func255,Tryz.ntmps255
  go_wp2_with fail
  refine I.out.mono ?_
  rintro e w1 ⟨rfl,h1⟩
  go_wp2
  go_ret
  rw[E2.out]
  exact⟨_,rfl,z0n H.out h1 (by simp),h1.up,rfl⟩
 ·rw[e1] at I
  obtain⟨gb,rfl⟩:∃gb,A=some ⟨gb,0,none⟩:=by
   rcases hA with rfl|⟨gb,rfl⟩
   ·exfalso
    rcases h.2 with⟨_,h0⟩|⟨g',cap',cur,h',_⟩
    ·omega
    ·cases h'
   ·exact⟨gb,rfl⟩
  have hgb:=(h.lt gb rfl)
  have H:=hid h
  have HP:=hid hp
  have HK:=hid hK
  have hne1:((k0:Int)==-1)=false:=beq_eq_false_iff_ne.2 (by omega)
  unfold maxLen at hm
  clear h hp hK e1 hA
  go_enter Tryz.func255,Tryz.ntmps255
  go_wp2_with fail
  refine I.out.mono ?_
  rintro e w1 ⟨rfl,h1⟩
  have HF1:=hid h1
  clear h1
  go_wp2
  go_loopg [5,6] (l.length - (k0+1)) (fun gg s5 s6 wr=>∃(i j:Nat) (d:List (Int×ByteArray)),gg=l.length - j∧s5=.int .i64 i∧s6=.int .i64 j∧Kept p l d i j∧wr.ownsRow base 91 2 (.slice (some ⟨gb,0,none⟩) l.length c) l.length (z08 d)∧Fr [gb] w wr)
  case atStart=>exact⟨k0,k0+1,l,rfl,rfl,by go_num,HK.out,z0n H.out HF1.out (by simp),HF1.out.up⟩
  case round=>
   obtain⟨i,j,d,rfl,rfl,rfl,hK,hO,hF⟩:=hrel
   have HK:=hid hK
   have HO:=hid hO
   have HF:=hid hF
   have hij:=hK.lt
   have hjl:=hK.le
   have hdl:=hK.len
   have hsz:=hF.size
   clear I HF1
   by_cases hlt:j < l.length
   ·obtain⟨s,hs⟩:∃s,l[j]? = some s:=⟨_,List.getElem?_eq_getElem hlt⟩
    have hd:d[j]? = some s:=(hK.behind j (Nat.le_refl _)).trans hs
    have L:=hid (fun W (hW:Fr [] wr W)=>HP.out W s ((hF.toB D).more (T:=[]) (by intro k hk;simp at hk;subst hk;exact .inr (by omega)) |>.trans (hW.toB D)))
    have HS:=hid hs
    have x1:wr.cell? ⟨gb,j * 2,none⟩=some (.int .i64 s.1):=(hO.cellAt (j * 2) (by omega)).trans (by rw[Nat.mul_comm];exact(z0b d j s hd).1)
    have x2:wr.cell? ⟨gb,j * 2+1,none⟩=some (.string s.2):=(hO.cellAt (j * 2+1) (by omega)).trans (by rw[Nat.mul_comm];exact(z0b d j s hd).2)
    have F1:=hid ((Fr.refl [] wr).alloc (.cells #[.int .i64 s.1,.string s.2] 91))
    have V1:=hid (Whole.new wr 91 [.int .i64 s.1,.string s.2])
    clear hK hO hF hs hd
    by_cases hq:p s=true
    ·rw[hq] at L
     have HQ:=hid hq
     clear hq
     go_wp2_with fail
     refine(L.out _ F1.out).mono ?_
     rintro e w2 ⟨rfl,h2⟩
     have f2:=hid (F1.out.trans h2)
     clear h2
     go_wp2
     go_roundg (l.length - (j+1))
     case measure=>omega
     case rel=>exact⟨i,j+1,d,rfl,rfl,by go_num,HK.out.skip HS.out HQ.out,z0n HO.out f2.out (by simp),HF.out.trans f2.out.up⟩
    ·have hq':p s=false:=by simpa using hq
     rw[hq'] at L
     have HQ:=hid hq'
     clear hq hq'
     obtain⟨s',hs'⟩:∃s',d[i]? = some s':=⟨_,List.getElem?_eq_getElem (by omega)⟩
     have HS':=hid hs'
     clear hs'
     go_wp2_with fail
     refine(L.out _ F1.out).mono ?_
     rintro e w2 ⟨rfl,h2⟩
     have f2:=hid (F1.out.trans h2)
     have HO2:=hid (z0n HO.out f2.out (by simp))
     have V2:=V1.out.fr h2 (by simp)
     have v1:w2.cell? ⟨wr.heap.size,0,none⟩=some (.int .i64 s.1):=V2.cell 0
     have v2:w2.cell? ⟨wr.heap.size,1,none⟩=some (.string s.2):=V2.cell 1
     have y1:w2.cell? ⟨gb,i * 2,none⟩=some (.int .i64 s'.1):=(HO2.out.cellAt (i * 2) (by omega)).trans (by rw[Nat.mul_comm];exact(z0b d i s' HS'.out).1)
     have y2:w2.cell? ⟨gb,i * 2+1,none⟩=some (.string s'.2):=(HO2.out.cellAt (i * 2+1) (by omega)).trans (by rw[Nat.mul_comm];exact(z0b d i s' HS'.out).2)
     have z1:w2.frozen? ⟨gb,i * 2,none⟩=false:=HO2.out.frozenAt _
     have z2:w2.frozen? ⟨gb,i * 2+1,none⟩=false:=HO2.out.frozenAt _
     clear V2
     clear h2
     go_wp2
     go_roundg (l.length - (j+1))
     case measure=>omega
     case rel=>
      have o1:=HO2.out.stored (i * 2) (.int .i64 s.1)
      have o2:=o1.1.stored (i * 2+1) (.string s.2)
      exact⟨i+1,j+1,d.set i s,rfl,by go_num,by go_num,HK.out.keep HS.out HQ.out,by rw[zdc];exact o2.1,((HF.out.trans f2.out.up).setCell (p:=⟨gb,i * 2,none⟩) (.inl (by simp)) _).setCell (p:=⟨gb,i * 2+1,none⟩) (.inl (by simp)) _⟩
   ·obtain rfl:j=l.length:=by omega
    have hdone:=hK.done
    obtain⟨cur,w0,l0,t0,hb0,_,_,hxl⟩:=z28 hO
    obtain⟨zs,hzs⟩:∃zs,zs=(Builtin.zeroCells (Value.cells (.agg #[.int .i64 0,.string ⟨#[]⟩])) (l.length - i)).toList:=⟨_,rfl⟩
    have hzl:zs.length=(l.length - i) * 2:=by rw[hzs];simp[Builtin.zeroCells,Value.cells]
    have hcl:∀ty,(Builtin.clear_ #[41] ty #[.slice (some ⟨gb,i * 2,none⟩) (l.length - i) (c - i)]).run prog wr=.ok (.tuple #[]) (wr.setCells gb (i * 2) zs):=fun ty=>by
     have:=z3j (P:=prog) wr 41 91 ty (.agg #[.int .i64 0,.string ⟨#[]⟩]) Tryz.underlying41 zx2 (by intro u hu;simp[Value.cells] at hu;rcases hu with rfl|rfl <;> rfl) gb (i * 2) (l.length - i) (c - i) (by omega) (fun t ht=>by
      exact z0k w0 (o:=i * 2) (m:=(l.length - i) * 2) (by omega) t (by simpa[Value.cells] using ht))
     rw[←hzs] at this
     exact this
    have W1:=z16 zs (i * 2) wr cur w0 (by omega)
    have O1:=z34 (cap:=c) (k:=2) (n:=i) (base:=base) W1 (by simp only[List.length_append,List.length_take,List.length_drop,l0,hzl];omega) hb0 (by omega) (by unfold maxLen;omega)
    rw[List.append_assoc,List.take_append_of_le_length (by rw[List.length_take];omega),List.take_take,Nat.min_eq_left (by omega)] at O1
    have e5:cur.take (i * 2)=z08 (l.filter fun x=>!p x):=by
     rw[←hdone,←z3m,←t0,List.take_take,Nat.min_eq_left (by omega)]
    have e6:i=(l.filter fun x=>!p x).length:=by rw[←hdone,List.length_take];omega
    rw[e5] at O1
    have HO1:=hid O1
    have HE:=hid e6
    have G1:=hid (z09 (g:=gb) zs (i * 2) wr)
    have hic:i < c:=by omega
    clear hK hO hF w0 l0 t0 hb0 hxl hzs hzl W1 O1 e5 e6 hdone hdl HK HO
    go_wp2
    go_ret
    have e6:=HE.out
    refine⟨_,rfl,?_,?_,rfl⟩
    ·rw[←e6]
     exact HO1.out
    ·exact HF.out.grown G1.out (fun k hk=>by cases hk;exact .inl (by simp))
def zl4(m:Nat)(ys:List Value)(base:Nat)(v:Value)(w:World)(e:Ending)(w':World):Prop:=
 ∃v',e=.returned v'∧w'.ownsRow base 91 2 v' m ys∧w.grownBy w' v.ownBlock∧v'.ownBlock=v.ownBlock
theorem zeroC:∀w,(zeroValue 91).run prog w=.ok (.agg #[.int .i64 0,.string ⟨#[]⟩]) w:=fun w=>by kernel_rfl
theorem zrj(n i j:Nat)(xs:List Value)(base:Nat)(v:Value)(w:World)(hn:n≤281474976710656)(hij:i < j)(hj:j≤n)(h:w.ownsRow base 91 2 v n xs)(h1:∀u∈xs,u.oneCell'=true) :
  Calls prog 251 #[v,.int .i64 i,.int .i64 j] w (zl4 (i+(n - j)) (xs.take (i * 2)++xs.drop (j * 2)) base v w):=by
 obtain⟨i0,hi,hz0,hz1,hz2⟩:=info_parts z66
 obtain⟨A,c,rfl,hA,hc,hm⟩:=z06 h
 rcases hA with rfl|⟨g,rfl⟩
 ·exfalso
  rcases h.2 with⟨_,h0⟩|⟨g',cap',cur,h',_⟩
  ·omega
  ·cases h'
 obtain⟨cur0,w0,l0,t0,hb0,_,_,hxl⟩:=z28 h
 have hdl:(xs.drop (j * 2)).length=(n - j) * 2:=by rw[List.length_drop,hxl];omega
 obtain⟨zs,hzs⟩:∃zs,zs=(Builtin.zeroCells (Value.cells (.agg #[.int .i64 0,.string ⟨#[]⟩])) (n - (i+(n - j)))).toList:=⟨_,rfl⟩
 have hzl:zs.length=(j - i) * 2:=by rw[hzs];simp[Builtin.zeroCells,Value.cells];omega
 obtain⟨cur1,w1,l1,o2⟩:=zig (w:=w.drew) h hij hj hzl
 obtain⟨A,hA,hsrc⟩:∃A:Addr,(if c=j then (some ⟨g,0,none⟩:Option Addr) else some ⟨g,j * 2,none⟩)=some A∧Hid (∀t u,(xs.drop (j * 2))[t]? = some u→w.drew.cell? (A.add t)=some u):=by
  by_cases hcj:c=j
  ·refine⟨⟨g,0,none⟩,by simp[hcj],fun t u hu=>?_⟩
   have h0:(xs.drop (j * 2)).length=0:=by rw[hdl];omega
   rw[List.length_eq_zero_iff.1 h0] at hu
   simp at hu
  ·refine⟨⟨g,j * 2,none⟩,by simp[hcj],fun t u hu=>?_⟩
   rw[List.getElem?_drop] at hu
   have hlt:=(List.getElem?_eq_some_iff.1 hu).1
   have:=(h.cellAt (j * 2+t) (by omega)).trans hu
   unfold Addr.add
   split
   ·have e:t=0:=by assumption
    subst e
    exact this
   ·exact this
 have s1:=hid hdl
 have s2:=hid (show ∀u∈xs.drop (j * 2),u.oneCell'=true from fun u hu=>h1 u (List.mem_of_mem_drop hu))
 have hcn:(i+(n - j)) * 2≤c * 2:=Nat.mul_le_mul_right _ (by omega)
 have s3:=hid (show ∀t,t < (xs.drop (j * 2)).length→(w.drew.cell? ⟨g,0+i * 2+t,none⟩).isSome=true∧w.drew.frozen? ⟨g,0+i * 2+t,none⟩=false from fun t ht=>by
  rw[Nat.zero_add]
  exact z0k w0 (o:=i * 2) (m:=(n - j) * 2) (by rw[l0];omega) t (by omega))
 obtain⟨W1,hW1⟩:∃W1,W1=w.drew.setCells g (0+i * 2) (xs.drop (j * 2)):=⟨_,rfl⟩
 have hcl:∀ty,(Builtin.clear_ #[41] ty #[.slice (some ⟨g,(i+(n - j)) * 2,none⟩) (n - (i+(n - j))) (c - (i+(n - j)))]).run prog W1=.ok (.tuple #[]) (W1.setCells g ((i+(n - j)) * 2) zs):=fun ty=>by
  have:=z3j (P:=prog) W1 41 91 ty (.agg #[.int .i64 0,.string ⟨#[]⟩]) Tryz.underlying41 zeroC (by intro u hu;simp[Value.cells] at hu;rcases hu with rfl|rfl <;> rfl) g ((i+(n - j)) * 2) (n - (i+(n - j))) (c - (i+(n - j))) (by omega) (fun t ht=>by
   rw[hW1,Nat.zero_add]
   exact z0k (w:=(w.drew.setCells g (i * 2) (xs.drop (j * 2)))) w1 (o:=(i+(n - j)) * 2) (m:=(n - (i+(n - j))) * 2) (by rw[l1];omega) t (by simpa[Value.cells] using ht))
  rw[←hzs,show(i+(n - j)) * 2=(i+(n - j)) * 2 by omega] at this
  exact this
 rw[show(i+(n - j)) * 2=(i+(n - j)) * 2 by omega] at o2
 have O2:=hid o2
 have HW:=hid hW1
 have hic:i≤c:=by omega
 have hjc:j≤c:=by omega
 have hlt:i < j:=hij
 unfold maxLen at hm
 clear h h1 cur0 w0 l0 t0 hb0 hxl hdl hzs hzl w1 l1 o2 cur1 hW1 hcn
 go_enter Tryz.func251,Tryz.ntmps251
 go_wp2_with fail
 go_region_law (refine step_append_room rfl (.tmp 22) (.tmp 25) 41 rfl 91 i0 2 Tryz.underlying41 hi hz1 g 0 i c (by simp[Act.eval,Act.put]) A (n - j) (c - j) (xs.drop (j * 2)) (by simp[Act.eval,Act.put]) s1.out hsrc.out s2.out (by omega) s3.out ?_;rw[←HW.out])
 go_wp2
 go_ret
 have e1:=HW.out
 rw[Nat.zero_add] at e1
 subst e1
 exact⟨_,rfl,O2.out,z24 ((z09 _ _ _).trans (z09 _ _ _)),rfl⟩
end Go.Proofs.YtamgdmiopinidaaGreatDoor
