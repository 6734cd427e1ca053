/- Contracts that the proof of E3 uses. No condition beyond those in each theorem. -/
import Derived.Test.YtamgdmiopinidaaGreatDoorSlE328
set_option linter.unusedVariables false
set_option linter.unusedSimpArgs false
set_option maxHeartbeats 8000000
set_option maxRecDepth 100000
namespace Go.Proofs.YtamgdmiopinidaaGreatDoor
open Lib (hid)
open Go.Proofs.Tryz (prog)
open Go.RowKit
theorem z7q(l:List (Int×ByteArray))(p:Int×ByteArray)(i:Nat):z12 (z08 l) [.int .i64 p.1,.string p.2] (i * 2)=z08 (l.take i++p :: l.drop i):=by
 have h:z08 l=z08 (l.take i)++z08 (l.drop i):=by rw[←z3g,List.take_append_drop]
 have hd:(z08 l).drop (i * 2)=z08 (l.drop i):=by
  have e:=List.take_append_drop (i * 2) (z08 l)
  rw[z3m] at e
  exact List.append_cancel_left (e.trans h)
 unfold z12
 rw[z3m,hd,show p :: l.drop i=[p]++l.drop i from rfl,z3g,z3g]
 simp[z08]
theorem zc6(l:List (Int×ByteArray))(i:Nat):(z08 l).take (i * 2)++(z08 l).drop ((i+1) * 2)=z08 (l.take i++l.drop (i+1)):=by
 have h:z08 l=z08 (l.take (i+1))++z08 (l.drop (i+1)):=by rw[←z3g,List.take_append_drop]
 have hd:(z08 l).drop ((i+1) * 2)=z08 (l.drop (i+1)):=by
  have e:=List.take_append_drop ((i+1) * 2) (z08 l)
  rw[z3m] at e
  exact List.append_cancel_left (e.trans h)
 rw[z3m,hd,z3g]
theorem zg1(x:Itm)(v:Value)(l:List (Int×ByteArray))(Al:Option Addr)(cl:Nat)(w:World)(B:Nat)(hs:x.Small)(hB:B≤w.heap.size)(h:z0q w B v x)(hl:(24+l.length) * 24≤140737488355328)(hL:Sl w B 2 (.slice Al l.length cl) l.length (z08 l)) :
  Calls prog 197 #[v,.slice Al l.length cl] w (z4k (zdy x l) (zbk x l) (z9i x l) w):=by
 have RD:=hid (fun W (hf:Fr [] w W)=>z6a x v W B hs (Nat.le_trans hB hf.size) (h.fr hf hB (by simp)))
 have SM:=hid (fun W (hf:Fr [] w W)=>zer l Al cl W B (by omega) (Nat.le_trans hB hf.size) (hL.fr hf hB (by simp)))
 have HL:=hid hL
 obtain⟨A1,c1,A2,c2,A3,c3,rfl,h1,h2,h3⟩:=h
 have H3:=hid h3
 have D0:=hid (BO.new w (.int .i64 x.kind) (.string x.text) (.slice A1 x.list.length c1) (.slice A2 x.pairs.length c2) (.slice A3 x.scores.length c3))
 obtain⟨d0,d1,d2,d3,d4⟩:=five D0.out.b
 have EC:=hid (show zbk x l=if zl2 x l≠0 then zl2 x l else if 24 < (zc1 x l).length then 2 else 0 from rfl)
 have EP:=hid (show zl2 x l=if z02 5 x≠0 then z02 5 x else z45 l from rfl)
 have EY:=hid (show z9i x l=if zbk x l=0 then ofC (zc1 x l) else z2r 0 from rfl)
 have EK:=hid (show zdy x l=if zbk x l=0 then ((zc1 x l).length:Int) - x.scores.length else 0 from rfl)
 clear h1 h2 h3 hs hL
 have no0:∀c:Int,c≠0→zbk x l=c→z9i x l=z2r 0∧zdy x l=0:=fun c hc he=>by
  have h0:zbk x l≠0:=by rw[he];exact hc
  exact⟨by rw[EY.out,if_neg h0],by rw[EK.out,if_neg h0]⟩
 have NO:=hid no0
 clear no0
 by_cases ha:z02 5 x=0
 ·rw[ha] at RD
  by_cases hb:z45 l=0
  ·have NL:=hid (zak hb).2
   have OK0:=hid (z32 ha)
   have hx24:=OK0.out.2
   have hp:zl2 x l=0:=by rw[EP.out,if_neg (by simpa using ha)];exact hb
   rw[hb] at SM
   have CL:=hid (fun W (hW:Fr [] w W)=>za8 x.scores.length (z08 x.scores) A3 c3 W B (by omega) (Nat.le_trans hB hW.size) (H3.out.fr hW hB (by simp)) (z52 _))
   have E0:=hid (show zbk x l=if 24 < (zc1 x l).length then 2 else 0 from by rw[EC.out,if_neg (by simpa using hp)])
   have PFO:=hid (zl3 hp)
   clear ha hb hp EC EP
   go_enter Tryz.func197,Tryz.ntmps197
   go_wp2_with fail
   refine(RD.out _ D0.out.f).mono ?_
   rintro e w1 ⟨rfl,f1⟩
   have D1:=hid (D0.out.go f1)
   clear d0 d1 d2 d3 d4
   go_wp2_with fail
   refine(SM.out _ D1.out.f).mono ?_
   rintro e w2 ⟨rfl,f2⟩
   have D2:=hid (D1.out.go f2)
   have hz2:=D2.out.lt
   obtain⟨d0,d1,d2,d3,d4⟩:=five D2.out.b
   go_wp2_with fail
   refine(CL.out _ D2.out.f).mono ?_
   rintro e w3 ⟨u,rfl,ho,f3⟩
   have D3:=hid (D2.out.go f3)
   have HO3:=hid (z1d ho (show w.heap.size+2≤w2.heap.size by omega))
   clear d0 d1 d2 d3 d4 ho SM RD CL
   go_wp2
   go_loopg [8,29] l.length (fun g o i wr=>∃(k:Nat) (cur:List (Int×ByteArray)),g=l.length - k∧k≤l.length∧i=.int .i64 k∧Hid (cur=(l.take k).foldl zg0 x.scores)∧wr.ownsRow (w.heap.size+2) 91 2 o cur.length (z08 cur)∧BO w 1 [.int .i64 x.kind,.string x.text,.slice A1 x.list.length c1,.slice A2 x.pairs.length c2,.slice A3 x.scores.length c3] wr)
   case atStart=>exact⟨0,x.scores,rfl,Nat.zero_le _,rfl,hid rfl,HO3.out,D3.out⟩
   case round=>
    obtain⟨k,cur,rfl,hk,rfl,hcur,hO,hD⟩:=hrel
    have D4:=hid hD
    have HO4:=hid hO
    have OKC:=hid (show z8g cur from by rw[hcur.out];exact z8g.fold _ OK0.out.1 (fun s hs=>NL.out s (List.mem_of_mem_take hs)))
    have hcl:cur.length≤24+k:=by
     have:=zh7 (l.take k) x.scores
     rw[←hcur.out,List.length_take] at this
     omega
    obtain⟨A,c,rfl,hA,hc1,hc2⟩:=z06 hO
    have hz4:=D4.out.lt
    clear hO hD hA
    by_cases hlt:k < l.length
    ·obtain⟨b,off,rfl,hb,hlc,hlm,hcell⟩:=HL.out.at_ (by omega)
     obtain⟨p,hp⟩:∃p,l[k]? = some p:=⟨_,List.getElem?_eq_getElem hlt⟩
     have x1:wr.cell? ⟨b,off+2 * k,none⟩=some (.int .i64 p.1):=D4.out.f.cell (hcell _ _ (z0b l k p hp).1) (by simp)
     have x2:wr.cell? ⟨b,off+2 * k+1,none⟩=some (.string p.2):=D4.out.f.cell (hcell _ _ (z0b l k p hp).2) (by simp)
     rw[Nat.mul_comm 2 k] at x1 x2
     have F1:=hid ((Fr.refl [] wr).alloc (.cells #[.int .i64 p.1,.string p.2] 91))
     have V1:=hid (Whole.new wr 91 [.int .i64 p.1,.string p.2])
     have PL:=hid (fun W (hW:Fr [] wr W)=>zg2 cur p.2 A c wr.heap.size W (by omega) hW.size ((z0t HO4.out).fr hW (Nat.le_refl _) (by simp)))
     have HPS:=hid (NL.out p (List.mem_of_getElem? hp))
     have HNX:=hid (show zg0 cur p=(l.take (k+1)).foldl zg0 x.scores from by rw[List.take_add_one,hp,Option.toList_some,List.foldl_append,←hcur.out];rfl)
     unfold maxLen at hc2 hlm
     clear hcell hp hcur
     rcases zde p.2 cur with⟨e1,hno⟩|⟨i0,s',e1,hi,hm,-⟩
     ·rw[e1] at PL
      have EO:=hid (zsq hno)
      clear e1 hno
      go_wp2_with fail
      refine(PL.out _ F1.out).mono ?_
      rintro e w5 ⟨rfl,f5⟩
      have F5:=hid (F1.out.trans f5)
      have HO5:=hid (z0n HO4.out F5.out (by simp))
      have V5:=hid (V1.out.fr f5 (by simp))
      have D5:=hid (D4.out.go F5.out)
      have hz5:wr.heap.size < w5.heap.size:=V5.out.lt
      clear f5
      have OKX:=hid (show z8g (cur) from by rw[←EO.out];exact OKC.out.off p.2)
      have NOX:=hid (show ∀q∈cur,q.2≠p.2 from by rw[←EO.out];exact zqy cur p.2)
      have hcu:(cur).length≤cur.length:=by have:=zew cur p.2;rw[EO.out] at this;exact this
      have HP:=hid (show zg0 cur p=(cur).take (z7b (cur) p)++p :: (cur).drop (z7b (cur) p) from by unfold zg0 zr7;rw[EO.out])
      have hlow:=zfb (cur) p
      have v1:w5.cell? ⟨wr.heap.size,0,none⟩=some (.int .i64 p.1):=V5.out.cell 0
      have v2:w5.cell? ⟨wr.heap.size,1,none⟩=some (.string p.2):=V5.out.cell 1
      have BS:=hid (zku (cur) p.1 p.2 A c w5.heap.size w5 OKX.out.rise (fun q hq=>(OKX.out.ok q hq).1) HPS.out.1 (by omega) (Nat.le_refl _) (z0t HO5.out))
      rw[show((p.1,p.2):Int×ByteArray)=p from rfl] at BS
      generalize zvt (cur) p=hb at *
      go_wp2_with fail
      refine BS.out.mono ?_
      rintro e w7 ⟨rfl,f7⟩
      have V7:=hid (V5.out.fr f7 (by simp))
      clear v1 v2
      have v1:w7.cell? ⟨wr.heap.size,0,none⟩=some (.int .i64 p.1):=V7.out.cell 0
      have v2:w7.cell? ⟨wr.heap.size,1,none⟩=some (.string p.2):=V7.out.cell 1
      have F8:=hid ((show Fr [] w5 w7 from f7).alloc (.cells #[.int .i64 p.1,.string p.2] 91))
      have V8:=hid (Whole.new w7 91 [.int .i64 p.1,.string p.2])
      have HO8:=hid (z0n HO5.out F8.out (by simp))
      have D8:=hid (D5.out.go F8.out)
      have hz8:=D8.out.lt
      have IN:=hid (zl0 (cur).length (z7b (cur) p) (z08 (cur)) [.int .i64 p.1,.string p.2] (w.heap.size+2) w7.heap.size (.slice A (cur).length c) _ (by omega) hlow HO8.out (z52 _) (by intro u hu;simp at hu;rcases hu with rfl|rfl <;> rfl) rfl V8.out (by
       intro e
       have h1:=(HO5.out.lt _ e).2
       have h2:=f7.size
       omega) (by omega))
      generalize z7b (cur) p=i at *
      clear f7 x1 x2
      go_wp2_with fail
      refine IN.out.mono ?_
      rintro e w9 ⟨u9,rfl,ho9,hg9,-⟩
      have D9:=hid (D8.out.step (z47 hg9) (fun g hg=>by have:=z1j HO8.out hg;omega))
      rw[z7q,←HP.out] at ho9
      have hl9:(zg0 cur p).length=(cur).length+1:=by
       rw[HP.out,List.length_append,List.length_cons,List.length_take,List.length_drop];omega
      rw[←hl9] at ho9
      have HO9:=hid ho9
      clear ho9 hg9
      go_wp2
      go_roundg (l.length - (k+1))
      case measure=>omega
      case rel=>exact⟨k+1,zg0 cur p,rfl,by omega,by go_num,HNX.out,HO9.out,D9.out⟩
     ·rw[e1] at PL
      have hil:=(List.getElem?_eq_some_iff.1 hi).1
      have EO:=hid (zso OKC.out.dist hi hm)
      clear e1 hm hi
      go_wp2_with fail
      refine(PL.out _ F1.out).mono ?_
      rintro e w5 ⟨rfl,f5⟩
      have F5:=hid (F1.out.trans f5)
      have HO5:=hid (z0n HO4.out F5.out (by simp))
      have V5:=hid (V1.out.fr f5 (by simp))
      have D5:=hid (D4.out.go F5.out)
      have hz5:wr.heap.size < w5.heap.size:=V5.out.lt
      have DE:=hid (show Calls prog 251 #[.slice A cur.length c,.int .i64 (i0:Int),.int .i64 ((i0:Int)+1)] w5 (zl4 (cur.take i0++cur.drop (i0+1)).length (z08 (cur.take i0++cur.drop (i0+1))) (w.heap.size+2) (.slice A cur.length c) w5) from by
       have:=zrj cur.length i0 (i0+1) (z08 cur) (w.heap.size+2) (.slice A cur.length c) w5 (by omega) (by omega) (by omega) HO5.out (z52 _)
       rw[zc6,show(((i0+1:Nat)):Int)=(i0:Int)+1 from by omega] at this
       rw[show(cur.take i0++cur.drop (i0+1)).length=i0+(cur.length - (i0+1)) from by rw[List.length_append,List.length_take,List.length_drop];omega]
       exact this)
      generalize cur.take i0++cur.drop (i0+1)=cu at *
      clear f5 PL
      go_wp2_with fail
      refine DE.out.mono ?_
      rintro e w6 ⟨u6,rfl,ho6,hg6,hb6⟩
      have V6:=hid (V5.out.grown hg6 (by
       intro e
       have:=HO4.out.lt wr.heap.size e.symm
       omega))
      have D6:=hid (D5.out.step (z47 hg6) (fun g hg=>by have:=z1j HO5.out hg;omega))
      have hs6:=hg6.size
      have HO6:=hid ho6
      obtain⟨A6,c6,rfl,-,hc6,hm6⟩:=z06 ho6
      unfold maxLen at hm6
      have hz6:w5.heap.size≤w6.heap.size:=hs6
      clear ho6 hg6 hb6 DE hs6
      have OKX:=hid (show z8g (cu) from by rw[←EO.out];exact OKC.out.off p.2)
      have NOX:=hid (show ∀q∈cu,q.2≠p.2 from by rw[←EO.out];exact zqy cur p.2)
      have hcu:(cu).length≤cur.length:=by have:=zew cur p.2;rw[EO.out] at this;exact this
      have HP:=hid (show zg0 cur p=(cu).take (z7b (cu) p)++p :: (cu).drop (z7b (cu) p) from by unfold zg0 zr7;rw[EO.out])
      have hlow:=zfb (cu) p
      have v1:w6.cell? ⟨wr.heap.size,0,none⟩=some (.int .i64 p.1):=V6.out.cell 0
      have v2:w6.cell? ⟨wr.heap.size,1,none⟩=some (.string p.2):=V6.out.cell 1
      have BS:=hid (zku (cu) p.1 p.2 A6 c6 w6.heap.size w6 OKX.out.rise (fun q hq=>(OKX.out.ok q hq).1) HPS.out.1 (by omega) (Nat.le_refl _) (z0t HO6.out))
      rw[show((p.1,p.2):Int×ByteArray)=p from rfl] at BS
      generalize zvt (cu) p=hb at *
      go_wp2_with fail
      refine BS.out.mono ?_
      rintro e w7 ⟨rfl,f7⟩
      have V7:=hid (V6.out.fr f7 (by simp))
      clear v1 v2
      have v1:w7.cell? ⟨wr.heap.size,0,none⟩=some (.int .i64 p.1):=V7.out.cell 0
      have v2:w7.cell? ⟨wr.heap.size,1,none⟩=some (.string p.2):=V7.out.cell 1
      have F8:=hid ((show Fr [] w6 w7 from f7).alloc (.cells #[.int .i64 p.1,.string p.2] 91))
      have V8:=hid (Whole.new w7 91 [.int .i64 p.1,.string p.2])
      have HO8:=hid (z0n HO6.out F8.out (by simp))
      have D8:=hid (D6.out.go F8.out)
      have hz8:=D8.out.lt
      have IN:=hid (zl0 (cu).length (z7b (cu) p) (z08 (cu)) [.int .i64 p.1,.string p.2] (w.heap.size+2) w7.heap.size (.slice A6 (cu).length c6) _ (by omega) hlow HO8.out (z52 _) (by intro u hu;simp at hu;rcases hu with rfl|rfl <;> rfl) rfl V8.out (by
       intro e
       have h1:=(HO6.out.lt _ e).2
       have h2:=f7.size
       omega) (by omega))
      generalize z7b (cu) p=i at *
      clear f7 x1 x2
      go_wp2_with fail
      refine IN.out.mono ?_
      rintro e w9 ⟨u9,rfl,ho9,hg9,-⟩
      have D9:=hid (D8.out.step (z47 hg9) (fun g hg=>by have:=z1j HO8.out hg;omega))
      rw[z7q,←HP.out] at ho9
      have hl9:(zg0 cur p).length=(cu).length+1:=by
       rw[HP.out,List.length_append,List.length_cons,List.length_take,List.length_drop];omega
      rw[←hl9] at ho9
      have HO9:=hid ho9
      clear ho9 hg9
      go_wp2
      go_roundg (l.length - (k+1))
      case measure=>omega
      case rel=>exact⟨k+1,zg0 cur p,rfl,by omega,by go_num,HNX.out,HO9.out,D9.out⟩
    ·obtain rfl:k=l.length:=by omega
     have hcur2:zc1 x l=cur:=by have:=hcur.out;rw[List.take_length] at this;exact this.symm
     rw[hcur2] at E0 EY EK
     clear hcur hcur2
     unfold maxLen at hc2
     by_cases h24:24 < cur.length
     ·have E:=hid (show zbk x l=2 from by rw[E0.out,if_pos h24])
      obtain⟨e1,e2⟩:=NO.out 2 (by decide) E.out
      have q24:(cur.length:Int) > 24:=by omega
      have E1:=hid e1
      have E2:=hid e2
      clear e1 e2 E0 EY EK NO h24 hlt
      obtain⟨a0,a1,a2,a3,a4⟩:=five D4.out.o
      obtain⟨b0,b2,b3,b4,b5⟩:=z10 D4.out.o
      go_wp2
      refine bodyPost_ret (v:=.tuple #[.agg #[.int .i64 0,.string ⟨#[]⟩,.slice none 0 0,.slice none 0 0,.slice none 0 0],.int .i64 0,.int .i64 2]) (by simp[results,Tryz.results197,go_sem,a0,a1,a2,a3,a4]) rfl ?_
      rw[E1.out,E2.out,E.out]
      exact⟨_,rfl,z0l.nothing _ _,D4.out.end5 _ _ _ _ _⟩
     ·have E:=hid (show zbk x l=0 from by rw[E0.out,if_neg h24])
      have E1:=hid (EY.out.trans (if_pos E.out))
      have E2:=hid (EK.out.trans (if_pos E.out))
      have q24:¬(cur.length:Int) > 24:=by omega
      have OF:=hid (fun W base u hu=>zcb cur base u W (by omega) OKC.out.small hu)
      have HW:=hid (show IntKind.i64.wrap ((cur.length:Int) - (x.scores.length:Int))=(cur.length:Int) - x.scores.length from IntWalk.i64_in _ (by omega))
      clear E0 EY EK NO hlt NL hcl
      obtain⟨d0,d1,d2,d3,d4⟩:=five D4.out.b
      generalize ofC cur=y at *
      generalize z9i x l=y0 at *
      generalize zdy x l=n0 at *
      generalize zbk x l=c0 at *
      have hne1:¬w.heap.size=w.heap.size+1:=by omega
      have hne2:¬w.heap.size+1=w.heap.size:=by omega
      go_wp2
      go_region_held3 (fun wx=>wx.cell? ⟨w.heap.size,4,none⟩=some (.slice A3 x.scores.length c3)) (go_keep) (first|(go_at_call 254;(refine(OF.out _ _ _ (show wr.drew.ownsRow _ _ _ _ _ _ from HO4.out)).mono ?_);rintro e w5 ⟨u5,rfl,hi,f5⟩;have D5:=hid (D4.out.go (z01 f5));clear d0 d1 d2 d3 d4 f5;obtain⟨d0,d1,d2,d3,d4⟩:=five D5.out.b;have HI:=hid hi;obtain⟨P1,p1,P2,p2,P3,p3,rfl⟩:=hi.form;clear hi;obtain⟨a0,a1,a2,a3,a4⟩:=five D5.out.o;obtain⟨b0,b2,b3,b4,b5⟩:=z10 D5.out.o))
      go_wp2
      refine bodyPost_ret (v:=.tuple #[.agg #[.int .i64 y.kind,.string y.text,.slice P1 y.list.length p1,.slice P2 y.pairs.length p2,.slice P3 y.scores.length p3],.int .i64 (IntKind.i64.wrap ((cur.length:Int) - (x.scores.length:Int))),.int .i64 0]) (by simp[results,Tryz.results197,go_sem,a0,a1,a2,a3,a4]) rfl ?_
      rw[E1.out,E2.out,E.out]
      exact⟨_,by rw[HW.out],(z1q HI.out (by omega) _ _ _ _ _).less (by omega),D5.out.end5 _ _ _ _ _⟩
  ·have E:=hid (show zbk x l=z45 l from by
    have hp:zl2 x l=z45 l:=by rw[EP.out,if_neg (by simpa using ha)]
    rw[EC.out,hp,if_pos hb])
   obtain⟨e1,e2⟩:=NO.out _ hb E.out
   rw[e1,e2,E.out]
   have q:(z45 l != 0)=true:=by simpa using hb
   clear e1 e2 EC EP EY EK ha hb NO E
   generalize z45 l=r at *
   go_enter Tryz.func197,Tryz.ntmps197
   go_wp2_with fail
   refine(RD.out _ D0.out.f).mono ?_
   rintro e w1 ⟨rfl,f1⟩
   have D1:=hid (D0.out.go f1)
   clear d0 d1 d2 d3 d4
   go_wp2_with fail
   refine(SM.out _ D1.out.f).mono ?_
   rintro e w2 ⟨rfl,f2⟩
   have D2:=hid (D1.out.go f2)
   obtain⟨a0,a1,a2,a3,a4⟩:=five D2.out.o
   obtain⟨b0,b2,b3,b4,b5⟩:=z10 D2.out.o
   go_wp2
   refine bodyPost_ret (v:=.tuple #[.agg #[.int .i64 0,.string ⟨#[]⟩,.slice none 0 0,.slice none 0 0,.slice none 0 0],.int .i64 0,.int .i64 r]) (by simp[results,Tryz.results197,go_sem,a0,a1,a2,a3,a4]) rfl ?_
   exact⟨_,rfl,z0l.nothing _ _,D2.out.end5 _ _ _ _ _⟩
 ·have hp:zl2 x l=z02 5 x:=by rw[EP.out,if_pos ha]
  have E:=hid (show zbk x l=z02 5 x from by rw[EC.out,hp,if_pos ha])
  obtain⟨e1,e2⟩:=NO.out _ ha E.out
  rw[e1,e2,E.out]
  have q:(z02 5 x != 0)=true:=by simpa using ha
  have q2:(z02 5 x==0)=false:=by simpa using ha
  clear e1 e2 EC EP EY EK hp E ha NO SM
  generalize z02 5 x=r at *
  go_enter Tryz.func197,Tryz.ntmps197
  go_wp2_with fail
  refine(RD.out _ D0.out.f).mono ?_
  rintro e w1 ⟨rfl,f1⟩
  have D1:=hid (D0.out.go f1)
  clear d0 d1 d2 d3 d4
  obtain⟨a0,a1,a2,a3,a4⟩:=five D1.out.o
  obtain⟨b0,b2,b3,b4,b5⟩:=z10 D1.out.o
  go_wp2
  refine bodyPost_ret (v:=.tuple #[.agg #[.int .i64 0,.string ⟨#[]⟩,.slice none 0 0,.slice none 0 0,.slice none 0 0],.int .i64 0,.int .i64 r]) (by simp[results,Tryz.results197,go_sem,a0,a1,a2,a3,a4]) rfl ?_
  exact⟨_,rfl,z0l.nothing _ _,D1.out.end5 _ _ _ _ _⟩
theorem zfg(x:Itm)(v:Value)(l:List ByteArray)(A:Option Addr)(c:Nat)(w:World)(B:Nat)(hs:x.Small)(hB:B≤w.heap.size)(h:z0q w B v x)(hl:l.length≤281474976710656)(hL:Sl w B 1 (.slice A l.length c) l.length (z03 l)) :
  Calls prog 198 #[v,.slice A l.length c] w (z4k (z9y x l) (z02 5 x) (z61 x l) w):=by
 have RD:=hid (fun W (hf:Fr [] w W)=>z6a x v W B hs (Nat.le_trans hB hf.size) (h.fr hf hB (by simp)))
 obtain⟨A1,c1,A2,c2,A3,c3,rfl,h1,h2,h3⟩:=h
 have H3:=hid h3
 have HL:=hid hL
 have D0:=hid (BO.newL w (.int .i64 x.kind) (.string x.text) (.slice A1 x.list.length c1) (.slice A2 x.pairs.length c2) (.slice A3 x.scores.length c3) (.slice A l.length c))
 obtain⟨d0,d1,d2,d3,d4⟩:=five D0.out.b
 have S0:=hid (show(((w.alloc (.cells #[.int .i64 x.kind,.string x.text,.slice A1 x.list.length c1,.slice A2 x.pairs.length c2,.slice A3 x.scores.length c3] 43)).alloc (.cells #[.slice A l.length c] 24)).alloc (.cells #[.int .i64 0,.string ⟨#[]⟩,.slice none 0 0,.slice none 0 0,.slice none 0 0] 43)).cell? ⟨w.heap.size+1,0,none⟩=some (.slice A l.length c) from by
  have:=((Whole.new (w.alloc (.cells #[.int .i64 x.kind,.string x.text,.slice A1 x.list.length c1,.slice A2 x.pairs.length c2,.slice A3 x.scores.length c3] 43)) 24 [.slice A l.length c]).alloc (.cells #[.int .i64 0,.string ⟨#[]⟩,.slice none 0 0,.slice none 0 0,.slice none 0 0] 43)).cell 0
  simpa using this)
 have EY:=hid (show z61 x l=if z02 5 x=0 then ofC (z8x x l) else z2r 0 from rfl)
 have EK:=hid (show z9y x l=if z02 5 x=0 then (x.scores.length:Int) - (z8x x l).length else 0 from rfl)
 clear h1 h2 h3 hs hL
 by_cases ha:z02 5 x=0
 ·have hok:=z18 ha
  rw[EY.out,EK.out,if_pos ha,if_pos ha,ha]
  rw[ha] at RD
  have OK0:=zkt l ha
  have h24:=(z32 ha).2
  have hrl:(z8x x l).length≤x.scores.length:=List.length_filter_le _ _
  have OF:=hid (fun W base u hu=>zcb (z8x x l) base u W (by omega) OK0.1.small hu)
  have CL:=hid (fun W (hW:Fr [] w W)=>za8 x.scores.length (z08 x.scores) A3 c3 W B (by omega) (Nat.le_trans hB hW.size) (H3.out.fr hW hB (by simp)) (z52 _))
  have DF:=hid (fun W base u D (hp:zln 256 #[.pointer (some ⟨w.heap.size+1,0,none⟩)] (fun x=>l.any fun y=>decide (y=x.2)) D W) hD hu=>(show Calls prog 255 #[u,.func (Fn.func 256) #[] #[.pointer (some ⟨w.heap.size+1,0,none⟩)]] W (zgq (z8x x l) base u W) from zoj 256 #[.pointer (some ⟨w.heap.size+1,0,none⟩)] (z1x Tryz.func256 (by kernel_rfl) rfl) (fun x=>l.any fun y=>decide (y=x.2)) D x.scores base u W hp hD (by omega) hu))
  clear hok OK0 EY EK ha
  generalize ofC (z8x x l)=y at *
  have HW:=hid (show IntKind.i64.wrap ((x.scores.length:Int) - ((z8x x l).length:Int))=(x.scores.length:Int) - (z8x x l).length from IntWalk.i64_in _ (by omega))
  generalize z8x x l=r at *
  go_enter Tryz.func198,Tryz.ntmps198
  go_wp2_with fail
  refine(RD.out _ D0.out.f).mono ?_
  rintro e w1 ⟨rfl,f1⟩
  have D1:=hid (D0.out.go f1)
  have S1:=hid (f1.cell S0.out (by simp))
  have hz1:=D1.out.lt
  clear d0 d1 d2 d3 d4
  obtain⟨d0,d1,d2,d3,d4⟩:=five D1.out.b
  go_wp2_with fail
  refine(CL.out _ D1.out.f).mono ?_
  rintro e w2 ⟨u,rfl,ho,f2⟩
  have D2:=hid (D1.out.go f2)
  have S2:=hid (f2.cell S1.out (by simp))
  have HO:=hid ho
  obtain⟨U,cu,rfl,-⟩:=z06 ho
  have hp:=hid (zli l A c (w.heap.size+1) w1.heap.size w2 hl f2.size (((HL.out.fr D1.out.f hB (by simp)).more (Nat.le_trans hB D1.out.f.size)).fr f2 (Nat.le_refl _) (by simp)) S2.out (by omega))
  clear d0 d1 d2 d3 d4 ho
  obtain⟨d0,d1,d2,d3,d4⟩:=five D2.out.b
  go_wp2_with fail
  refine(DF.out _ _ _ _ hp.out (Nat.le_refl _) HO.out).mono ?_
  rintro e w3 ⟨u3,rfl,ho3,f3,-⟩
  have D3:=hid (D2.out.step f3 (fun g hg=>by have:=z1j HO.out hg;omega))
  have HO3:=hid ho3
  obtain⟨U3,cu3,rfl,-⟩:=z06 ho3
  clear d0 d1 d2 d3 d4 ho3
  obtain⟨d0,d1,d2,d3,d4⟩:=five D3.out.b
  have hne1:¬w.heap.size=w.heap.size+1+1:=by omega
  have hne2:¬w.heap.size+1+1=w.heap.size:=by omega
  go_wp2
  go_region_held3 (fun wx=>wx.cell? ⟨w.heap.size,4,none⟩=some (.slice A3 x.scores.length c3)) (go_keep) (first|(go_at_call 254;(refine(OF.out _ _ _ (show w3.drew.ownsRow _ _ _ _ _ _ from HO3.out)).mono ?_);rintro e w5 ⟨u5,rfl,hi,f5⟩;have D5:=hid (D3.out.go (z01 f5));clear d0 d1 d2 d3 d4 f5;obtain⟨d0,d1,d2,d3,d4⟩:=five D5.out.b;have HI:=hid hi;obtain⟨P1,p1,P2,p2,P3,p3,rfl⟩:=hi.form;clear hi;have OO:=D5.out.o;rw[show w.heap.size+2=w.heap.size+1+1 from rfl] at OO;obtain⟨a0,a1,a2,a3,a4⟩:=five OO;obtain⟨b0,b2,b3,b4,b5⟩:=z10 OO;clear OO))
  go_wp2
  refine bodyPost_ret (v:=.tuple #[.agg #[.int .i64 y.kind,.string y.text,.slice P1 y.list.length p1,.slice P2 y.pairs.length p2,.slice P3 y.scores.length p3],.int .i64 (IntKind.i64.wrap ((x.scores.length:Int) - (r.length:Int))),.int .i64 0]) (by simp[results,Tryz.results198,go_sem,a0,a1,a2,a3,a4]) rfl ?_
  exact⟨_,by rw[HW.out],(z1q HI.out (by omega) _ _ _ _ _).less (by omega),D5.out.end5 _ _ _ _ _⟩
 ·rw[EY.out,EK.out,if_neg ha,if_neg ha]
  have q2:(z02 5 x != 0)=true:=by simpa using ha
  clear EY EK ha
  generalize z02 5 x=r at *
  go_enter Tryz.func198,Tryz.ntmps198
  go_wp2_with fail
  refine(RD.out _ D0.out.f).mono ?_
  rintro e w1 ⟨rfl,f1⟩
  have D1:=hid (D0.out.go f1)
  clear d0 d1 d2 d3 d4
  have OO:=D1.out.o
  rw[show w.heap.size+2=w.heap.size+1+1 from rfl] at OO
  obtain⟨a0,a1,a2,a3,a4⟩:=five OO
  obtain⟨b0,b2,b3,b4,b5⟩:=z10 OO
  clear OO
  go_wp2
  refine bodyPost_ret (v:=.tuple #[.agg #[.int .i64 0,.string ⟨#[]⟩,.slice none 0 0,.slice none 0 0,.slice none 0 0],.int .i64 0,.int .i64 r]) (by simp[results,Tryz.results198,go_sem,a0,a1,a2,a3,a4]) rfl ?_
  exact⟨_,rfl,z0l.nothing _ _,D1.out.end5 _ _ _ _ _⟩
end Go.Proofs.YtamgdmiopinidaaGreatDoor
