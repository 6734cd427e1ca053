/- Contracts that the proof of E3 uses. No condition beyond those in each theorem. -/
import Derived.Test.YtamgdmiopinidaaGreatDoorSlE328
set_option linter.unusedVariables false
set_option linter.unusedSimpArgs false
set_option maxHeartbeats 8000000
set_option maxRecDepth 100000
namespace Go.Proofs.YtamgdmiopinidaaGreatDoor
open Lib (hid)
open Go.Proofs.Tryz (prog)
open Go.RowKit
def zj3(n code:Int)(w:World)(e:Ending)(w':World):Prop:=e=.returned (.tuple #[.int .i64 n,.int .i64 code])∧Fr [] w w'
def znf(l:List ByteArray)(code:Int)(w:World)(e:Ending)(w':World):Prop:=∃u,e=.returned (.tuple #[u,.int .i64 code])∧w'.ownsRow w.heap.size 9 1 u l.length (z03 l)∧Fr [] w w'
def zun(g:Nat)(lb:Array Value)(p:Nat→Int×ByteArray→Bool)(B:Nat)(w:World):Prop:=
 ∀W (i:Nat) (x:Int×ByteArray),i≤281474976710656→FrB [] B w W→Calls prog g (#[.int .i64 i,.agg #[.int .i64 x.1,.string x.2]]++lb) W fun e w'=>e=.returned (.bool (p i x))∧Fr [] W w'
theorem zd7(g:Nat)(lb:Array Value)(eg:∀args w,(callFunc g args).run prog w=.ok (.enter g args) w)(p:Nat→Int×ByteArray→Bool)(D:Nat)(l:List (Int×ByteArray))(A:Option Addr)(c B:Nat)(w:World)(hp:zun g lb p D w)(hl:l.length≤1000000)(hB:B≤w.heap.size)
  (hsl:Sl w B 2 (.slice A l.length c) l.length (z08 l)) :
  Calls prog 257 #[.slice A l.length c,.func (Fn.func g) #[] lb] w (z7h 9 1 (z67 p l l.length).length (z03 (z67 p l l.length)) w):=by
 obtain⟨i0,hi,hz0,hz1,hz2⟩:=info_parts z3o
 have HS:=hid hsl
 have HP:=hid hp
 clear hsl hp
 go_enter Tryz.func257,Tryz.ntmps257
 go_wp2
 go_loopg [5,10] l.length (fun g o i wr=>∃(k:Nat),g=l.length - k∧k≤l.length∧i=.int .i64 k∧wr.ownsRow w.heap.size 9 1 o (z67 p l k).length (z03 (z67 p l k))∧Fr [] w wr)
 case atStart=>exact⟨0,rfl,Nat.zero_le _,rfl,World.ownsRow_nil _ _ _ _,Fr.refl _ _⟩
 case round=>
  obtain⟨k,rfl,hk,rfl,ho,hf⟩:=hrel
  have HO:=hid ho
  have HF:=hid hf
  have hsz:=hf.size
  obtain⟨Av,cv,rfl,-⟩:=z06 ho
  have hml:=zh2 p l k
  clear ho hf
  by_cases hlt:k < l.length
  ·obtain⟨b,off,rfl,hb,hc,hm,hcell⟩:=HS.out.at_ (by omega)
   obtain⟨s,hs⟩:∃s,l[k]? = some s:=⟨_,List.getElem?_eq_getElem hlt⟩
   have hc1:wr.cell? ⟨b,off+2 * k,none⟩=some (.int .i64 s.1):=HF.out.cell (hcell _ _ (z0b l k s hs).1) (by simp)
   have hc2:wr.cell? ⟨b,off+2 * k+1,none⟩=some (.string s.2):=HF.out.cell (hcell _ _ (z0b l k s hs).2) (by simp)
   rw[Nat.mul_comm 2 k] at hc1 hc2
   have L:=hid (fun W (hW:Fr [] wr W)=>HP.out W k s (by omega) ((HF.out.toB D).trans (hW.toB D)))
   have ST:=hid (zab (p:=p) hs)
   have F1:=hid ((Fr.refl [] wr).alloc (.cells #[.int .i64 s.1,.string s.2] 91))
   have V1:=hid (Whole.new wr 91 [.int .i64 s.1,.string s.2])
   clear hcell hs
   by_cases hq:p k s=true
   ·rw[if_pos hq] at ST
    rw[hq] at L
    clear hq
    go_wp2_with fail
    refine(L.out _ F1.out).mono ?_
    rintro e w1 ⟨rfl,h1⟩
    have F2:=hid (F1.out.trans h1)
    have v1:w1.cell? ⟨wr.heap.size,1,none⟩=some (.string s.2):=(V1.out.fr h1 (by simp)).cell 1
    have HO2:=hid (z0n HO.out F2.out (by simp))
    have hz2':w.heap.size≤w1.heap.size:=Nat.le_trans hsz F2.out.size
    generalize z67 p l k=d at *
    clear h1
    go_wp2_with (at_builtin;refine wpList_append_own_at _ rfl _ _ 24 rfl w.heap.size 9 i0 _ 1 16 Tryz.underlying24 hi hz0 hz1 hz2 rfl (by decide) _ _ _ rfl (HO2.out.alloc _) ⟨w1.heap.size,0,none⟩ 1 1 [.string s.2] rfl rfl ?c1 ?c2 ?c3 ?c4 ?c5 ?_)
    case c1=>exact cell_one_new _ _ _
    case c2=>intro u hu;simp at hu;subst hu;rfl
    case c3=>unfold maxLen;omega
    case c4=>omega
    case c5=>simp;omega
    intro v' w2 hown' hgrow _ hat
    have HO3:=hid hown'
    have HF2:=hid (((HF.out.trans F2.out).alloc (.cells #[.string s.2] 9)).grown hgrow (fun k hk=>.inr (HO2.out.lt k hk).1))
    clear hown' hgrow hat hc1 hc2 v1
    go_wp2
    go_roundg (l.length - (k+1))
    case measure=>omega
    case rel=>exact⟨k+1,rfl,by omega,by go_num,by rw[ST.out,z4y];simpa[z03] using HO3.out,HF2.out⟩
   ·rw[if_neg hq] at ST
    rw[show p k s=false by simpa using hq] at L
    clear hq
    go_wp2_with fail
    refine(L.out _ F1.out).mono ?_
    rintro e w1 ⟨rfl,h1⟩
    have F2:=hid (F1.out.trans h1)
    clear h1
    go_wp2
    go_roundg (l.length - (k+1))
    case measure=>omega
    case rel=>exact⟨k+1,rfl,by omega,by go_num,by rw[ST.out];exact z0n HO.out F2.out (by simp),HF.out.trans F2.out⟩
  ·obtain rfl:k=l.length:=by omega
   go_wp2
   go_ret
   exact⟨_,rfl,HO.out,HF.out⟩
theorem zmb(i a b:Nat)(s:Int×ByteArray)(g h:Nat)(w:World)(ha:w.cell? ⟨g,0,none⟩=some (.int .i64 a))(hb:w.cell? ⟨h,0,none⟩=some (.int .i64 b)) :
  Calls prog 258 (#[.int .i64 i,.agg #[.int .i64 s.1,.string s.2]]++#[.pointer (some ⟨g,0,none⟩),.pointer (some ⟨h,0,none⟩)]) w fun e w'=>e=.returned (.bool (decide (a≤i)&&decide (i < b)))∧Fr [] w w':=by
 have F1:Fr [] w (w.alloc (.cells #[.int .i64 s.1,.string s.2] 91)):=(Fr.refl [] w).alloc _
 have ha1:(w.alloc (.cells #[.int .i64 s.1,.string s.2] 91)).cell? ⟨g,0,none⟩=some (.int .i64 a):=F1.cell ha (by simp)
 have hb1:(w.alloc (.cells #[.int .i64 s.1,.string s.2] 91)).cell? ⟨h,0,none⟩=some (.int .i64 b):=F1.cell hb (by simp)
 clear ha hb
 by_cases h1:a≤i
 ·go_enter Tryz.func258,Tryz.ntmps258
  go_wp2
  go_ret
  exact⟨by rw[decide_eq_true h1];simp,F1⟩
 ·have d1:decide (a≤i)=false:=decide_eq_false h1
  go_enter Tryz.func258,Tryz.ntmps258
  go_wp2
  go_ret
  exact⟨by rw[decide_eq_false h1];simp,F1⟩
theorem ziw(a b g h D:Nat)(w:World)(ha:w.cell? ⟨g,0,none⟩=some (.int .i64 a))(hb:w.cell? ⟨h,0,none⟩=some (.int .i64 b))(hg:g < D)(hh:h < D):zun 258 #[.pointer (some ⟨g,0,none⟩),.pointer (some ⟨h,0,none⟩)] (fun i _=>decide (a≤i)&&decide (i < b)) D w:=
 fun W i x _ hW=>zmb i a b x g h W (z4t hW ha hg (by simp)) (z4t hW hb hh (by simp))
theorem zj7(i:Nat)(a b:Int)(s:Int×ByteArray)(g h:Nat)(w:World)(ha:w.cell? ⟨g,0,none⟩=some (.int .i64 a))(hb:w.cell? ⟨h,0,none⟩=some (.int .i64 b)) :
  Calls prog 259 (#[.int .i64 i,.agg #[.int .i64 s.1,.string s.2]]++#[.pointer (some ⟨g,0,none⟩),.pointer (some ⟨h,0,none⟩)]) w fun e w'=>e=.returned (.bool (decide (a≤s.1)&&decide (s.1≤b)))∧Fr [] w w':=by
 have F1:Fr [] w (w.alloc (.cells #[.int .i64 s.1,.string s.2] 91)):=(Fr.refl [] w).alloc _
 have ha1:(w.alloc (.cells #[.int .i64 s.1,.string s.2] 91)).cell? ⟨g,0,none⟩=some (.int .i64 a):=F1.cell ha (by simp)
 have hb1:(w.alloc (.cells #[.int .i64 s.1,.string s.2] 91)).cell? ⟨h,0,none⟩=some (.int .i64 b):=F1.cell hb (by simp)
 clear ha hb
 by_cases h1:a≤s.1
 ·go_enter Tryz.func259,Tryz.ntmps259
  go_wp2
  go_ret
  exact⟨by rw[decide_eq_true h1];simp,F1⟩
 ·have d1:decide (a≤s.1)=false:=decide_eq_false h1
  go_enter Tryz.func259,Tryz.ntmps259
  go_wp2
  go_ret
  exact⟨rfl,F1⟩
theorem zgc(a b:Int)(g h D:Nat)(w:World)(ha:w.cell? ⟨g,0,none⟩=some (.int .i64 a))(hb:w.cell? ⟨h,0,none⟩=some (.int .i64 b))(hg:g < D)(hh:h < D):zun 259 #[.pointer (some ⟨g,0,none⟩),.pointer (some ⟨h,0,none⟩)] (fun _ s=>decide (a≤s.1)&&decide (s.1≤b)) D w:=
 fun W i x _ hW=>zj7 i a b x g h W (z4t hW ha hg (by simp)) (z4t hW hb hh (by simp))
theorem z9s(x:Itm)(v:Value)(m:ByteArray)(w:World)(B:Nat)(hs:x.Small)(hB:B≤w.heap.size)(h:z0q w B v x) :
  Calls prog 200 #[v,.string m] w (zj3 (z9a x m) (z19 x m) w):=by
 have RD:=hid (fun W (hf:Fr [] w W)=>z6a x v W B hs (Nat.le_trans hB hf.size) (h.fr hf hB (by simp)))
 obtain⟨A1,c1,A2,c2,A3,c3,rfl,h1,h2,h3⟩:=h
 have PL:=hid (fun W (hf:Fr [] w W)=>zg2 x.scores m A3 c3 B W hs.scores (Nat.le_trans hB hf.size) (h3.fr hf hB (by simp)))
 have D0:=hid (BX.new w (.int .i64 x.kind) (.string x.text) (.slice A1 x.list.length c1) (.slice A2 x.pairs.length c2) (.slice A3 x.scores.length c3))
 obtain⟨d0,d1,d2,d3,d4⟩:=five D0.out.b
 have EC:=hid (show z19 x m=if z02 5 x≠0 then z02 5 x else if z6b x m < 0 then 5 else 0 from rfl)
 have EN:=hid (show z9a x m=if z19 x m=0 then z6b x m else 0 from rfl)
 have ER:=hid (show z6b x m=z3c (fun q:Int×ByteArray=>decide (q.2=m)) x.scores from rfl)
 clear h1 h2 h3 hs
 by_cases ha:z02 5 x=0
 ·rw[ha] at RD
  by_cases hr:z6b x m < 0
  ·have E1:=hid (show z19 x m=5 from by rw[EC.out,if_neg (by simpa using ha),if_pos hr])
   have E2:=hid (show z9a x m=0 from by rw[EN.out,E1.out,if_neg (by decide)])
   rw[E1.out,E2.out]
   rw[←ER.out] at PL
   clear EC EN ER E1 E2 ha
   generalize z6b x m=r at *
   go_enter Tryz.func200,Tryz.ntmps200
   go_wp2_with fail
   refine(RD.out _ D0.out.f).mono ?_
   rintro e w1 ⟨rfl,f1⟩
   have D1:=hid (D0.out.go f1)
   clear d0 d1 d2 d3 d4
   obtain⟨d0,d1,d2,d3,d4⟩:=five D1.out.b
   go_wp2_with fail
   refine(PL.out _ D1.out.f).mono ?_
   rintro e w2 ⟨rfl,f2⟩
   go_wp2
   go_ret2
   exact⟨rfl,D1.out.f.trans f2⟩
  ·have E1:=hid (show z19 x m=0 from by rw[EC.out,if_neg (by simpa using ha),if_neg hr])
   have E2:=hid (show z9a x m=z6b x m from by rw[EN.out,E1.out,if_pos rfl])
   rw[E1.out,E2.out]
   rw[←ER.out] at PL
   clear EC EN ER E1 E2 ha
   generalize z6b x m=r at *
   go_enter Tryz.func200,Tryz.ntmps200
   go_wp2_with fail
   refine(RD.out _ D0.out.f).mono ?_
   rintro e w1 ⟨rfl,f1⟩
   have D1:=hid (D0.out.go f1)
   clear d0 d1 d2 d3 d4
   obtain⟨d0,d1,d2,d3,d4⟩:=five D1.out.b
   go_wp2_with fail
   refine(PL.out _ D1.out.f).mono ?_
   rintro e w2 ⟨rfl,f2⟩
   go_wp2
   go_ret2
   exact⟨rfl,D1.out.f.trans f2⟩
 ·have E1:=hid (show z19 x m=z02 5 x from by rw[EC.out,if_pos ha])
  have E2:=hid (show z9a x m=0 from by rw[EN.out,E1.out,if_neg ha])
  rw[E1.out,E2.out]
  have q:(z02 5 x != 0)=true:=by simpa using ha
  clear ha EC EN ER E1 E2
  generalize z02 5 x=r at *
  go_enter Tryz.func200,Tryz.ntmps200
  go_wp2_with fail
  refine(RD.out _ D0.out.f).mono ?_
  rintro e w1 ⟨rfl,f1⟩
  go_wp2
  go_ret2
  exact⟨rfl,D0.out.f.trans f1⟩
theorem zw2{x:Itm}{m:ByteArray}(h:z19 x m=0):∃(k:Nat) (s:Int×ByteArray),z9a x m=k∧x.scores[k]? = some s∧zqx x m=s.1∧s.2=m:=by
 have hn:z9a x m=z6b x m:=by unfold z9a;rw[if_pos h]
 have hq:zqx x m=(x.scores.getD (z6b x m).toNat (0,⟨#[]⟩)).1:=by unfold zqx;rw[if_pos h]
 unfold z19 at h
 by_cases ha:z02 5 x=0
 ·rw[if_neg (by simpa using ha)] at h
  by_cases hr:z6b x m < 0
  ·rw[if_pos hr] at h;cases h
  ·rcases zde m x.scores with⟨e1,_⟩|⟨k,s,e1,hk,hm,_⟩
   ·unfold z6b at hr;rw[e1] at hr;exact absurd (by decide) hr
   ·have e2:z6b x m=k:=e1
    refine⟨k,s,hn.trans e2,hk,?_,hm⟩
    rw[hq,e2,Int.toNat_natCast,List.getD_eq_getElem?_getD,hk]
    rfl
 ·rw[if_pos ha] at h;exact absurd h ha
theorem zd0(x:Itm)(v:Value)(m:ByteArray)(w:World)(B:Nat)(hs:x.Small)(hB:B≤w.heap.size)(h:z0q w B v x) :
  Calls prog 199 #[v,.string m] w (zj3 (zqx x m) (z19 x m) w):=by
 have RK:=hid (fun W (hf:Fr [] w W)=>z9s x v m W B hs (Nat.le_trans hB hf.size) (h.fr hf hB (by simp)))
 obtain⟨A1,c1,A2,c2,A3,c3,rfl,h1,h2,h3⟩:=h
 have H3:=hid h3
 have D0:=hid (BX.new w (.int .i64 x.kind) (.string x.text) (.slice A1 x.list.length c1) (.slice A2 x.pairs.length c2) (.slice A3 x.scores.length c3))
 obtain⟨d0,d1,d2,d3,d4⟩:=five D0.out.b
 have EN:=hid (show zqx x m=if z19 x m=0 then (x.scores.getD (z6b x m).toNat (0,⟨#[]⟩)).1 else 0 from rfl)
 have hsl:=hs.scores
 clear h1 h2 h3 hs
 unfold zj3 at RK
 by_cases hr:z19 x m=0
 ·obtain⟨k,s,e1,hk,e2,-⟩:=zw2 hr
  have hlt:=(List.getElem?_eq_some_iff.1 hk).1
  obtain⟨b,off,rfl,hb,hlc,hcm,hcell⟩:=H3.out.at_ (by omega)
  have HC:=hid (hcell _ _ (z0b _ _ s hk).1)
  unfold maxLen at hcm
  rw[Nat.mul_comm 2 k] at HC
  rw[hr,e1] at RK
  rw[hr,e2]
  clear hr e1 e2 hk hcell EN
  go_enter Tryz.func199,Tryz.ntmps199
  go_wp2_with fail
  refine(RK.out _ D0.out.f).mono ?_
  rintro e w1 ⟨rfl,f1⟩
  have D1:=hid (D0.out.go f1)
  clear d0 d1 d2 d3 d4
  obtain⟨d0,d1,d2,d3,d4⟩:=five D1.out.b
  have hc1:w1.cell? ⟨b,off+k * 2,none⟩=some (.int .i64 s.1):=D1.out.f.cell HC.out (by simp)
  go_wp2
  go_ret2
  exact⟨rfl,D1.out.f⟩
 ·have E2:=hid (show zqx x m=0 from by rw[EN.out,if_neg hr])
  rw[E2.out]
  have q:(z19 x m != 0)=true:=by simpa using hr
  clear hr EN E2
  generalize z19 x m=r at *
  generalize z9a x m=r2 at *
  go_enter Tryz.func199,Tryz.ntmps199
  go_wp2_with fail
  refine(RK.out _ D0.out.f).mono ?_
  rintro e w1 ⟨rfl,f1⟩
  go_wp2
  go_ret2
  exact⟨rfl,D0.out.f.trans f1⟩
theorem zc9(x:Itm)(f t:Int):z67 (fun i _=>decide (z5s x.scores.length f t≤i)&&decide (i < z5t x.scores.length f t)) x.scores x.scores.length=z29 (x.scores.map (·.2)) f t:=by
 rw[zcg _ _ _ _ (Nat.le_refl _)]
 unfold z29
 rw[List.take_of_length_le (l:=x.scores.map (·.2)) (i:=x.scores.length) (by rw[List.length_map];omega),List.length_map]
theorem zds(x:Itm)(v:Value)(f t:Int)(w:World)(B:Nat)(hs:x.Small)(hB:B≤w.heap.size)(h:z0q w B v x)(hf:-9223372036854775808≤f∧f≤9223372036854775807)(ht:-9223372036854775808≤t∧t≤9223372036854775807) :
  Calls prog 201 #[v,.int .i64 f,.int .i64 t] w (znf (z65 x f t) (z02 5 x) w):=by
 have RD:=hid (fun W (hf:Fr [] w W)=>z6a x v W B hs (Nat.le_trans hB hf.size) (h.fr hf hB (by simp)))
 obtain⟨A1,c1,A2,c2,A3,c3,rfl,h1,h2,h3⟩:=h
 have H3:=hid h3
 have D0:=hid (BX.new w (.int .i64 x.kind) (.string x.text) (.slice A1 x.list.length c1) (.slice A2 x.pairs.length c2) (.slice A3 x.scores.length c3))
 obtain⟨d0,d1,d2,d3,d4⟩:=five D0.out.b
 have ER:=hid (show z65 x f t=if z02 5 x=0 then z29 (x.scores.map (·.2)) f t else [] from rfl)
 clear h1 h2 h3 hs
 by_cases ha:z02 5 x=0
 ·have h24:=(z32 ha).2
  have EM:=hid (zc9 x f t)
  have SP:=hid (fun W=>zfa x.scores.length f t W (by omega) hf ht)
  have E1:=hid (ER.out.trans (if_pos ha))
  rw[E1.out,ha]
  rw[ha] at RD
  have MB:=hid (fun W (g h:Nat) (hF:Fr [] w W) (ca:W.cell? ⟨g,0,none⟩=some (.int .i64 (z5s x.scores.length f t:Nat))) (cb:W.cell? ⟨h,0,none⟩=some (.int .i64 (z5t x.scores.length f t:Nat))) (hg:g < W.heap.size) (hh:h < W.heap.size)=>
   zd7 258 #[.pointer (some ⟨g,0,none⟩),.pointer (some ⟨h,0,none⟩)] (z1x Tryz.func258 (by kernel_rfl) rfl) _ W.heap.size x.scores A3 c3 B W (ziw _ _ g h _ W ca cb hg hh) (by omega) (Nat.le_trans hB hF.size) (H3.out.fr hF hB (by simp)))
  rw[EM.out] at MB
  unfold z7h at MB
  clear ha ER E1 EM
  generalize z29 (x.scores.map (·.2)) f t=r at *
  generalize z5s x.scores.length f t=a at *
  generalize z5t x.scores.length f t=b at *
  go_enter Tryz.func201,Tryz.ntmps201
  go_wp2_with fail
  refine(RD.out _ D0.out.f).mono ?_
  rintro e w1 ⟨rfl,f1⟩
  have D1:=hid (D0.out.go f1)
  clear d0 d1 d2 d3 d4
  obtain⟨d0,d1,d2,d3,d4⟩:=five D1.out.b
  go_wp2_with fail
  refine(SP.out _).mono ?_
  rintro e w2 ⟨rfl,rfl⟩
  have D2:=hid (D1.out.go (((Fr.refl [] w1).alloc (.cells #[.int .i64 a] 3)).alloc (.cells #[.int .i64 b] 3)))
  have W2:=hid ((Whole.new w1 3 [.int .i64 a]).alloc (.cells #[.int .i64 b] 3))
  have W3:=hid (Whole.new (w1.alloc (.cells #[.int .i64 a] 3)) 3 [.int .i64 b])
  have hs1:(w1.alloc (.cells #[.int .i64 a] 3)).heap.size=w1.heap.size+1:=by simp
  rw[hs1] at W3
  have M:=hid (MB.out _ w1.heap.size (w1.heap.size+1) D2.out.f (W2.out.cell 0) (W3.out.cell 0) W2.out.lt W3.out.lt)
  clear d0 d1 d2 d3 d4 hs1
  obtain⟨d0,d1,d2,d3,d4⟩:=five D2.out.b
  go_wp2_with fail
  refine M.out.mono ?_
  rintro e w3 ⟨u,rfl,ho,f3⟩
  have hz:=D2.out.f.size
  have D3:=hid (D2.out.go f3)
  go_wp2
  go_ret2
  exact⟨u,rfl,z1d ho hz,D3.out.f⟩
 ·have E1:=hid (ER.out.trans (if_neg ha))
  rw[E1.out]
  have q:(z02 5 x != 0)=true:=by simpa using ha
  clear ha ER E1
  generalize z02 5 x=r at *
  go_enter Tryz.func201,Tryz.ntmps201
  go_wp2_with fail
  refine(RD.out _ D0.out.f).mono ?_
  rintro e w1 ⟨rfl,f1⟩
  have D1:=hid (D0.out.go f1)
  go_wp2
  go_ret2
  exact⟨_,rfl,World.ownsRow_nil _ _ _ _,D1.out.f⟩
theorem boxNN(w:World)(a b c d e:Value)(f t:Int):BX w [a,b,c,d,e] (((w.alloc (.cells #[a,b,c,d,e] 43)).alloc (.cells #[.int .i64 f] 3)).alloc (.cells #[.int .i64 t] 3))∧Whole (((w.alloc (.cells #[a,b,c,d,e] 43)).alloc (.cells #[.int .i64 f] 3)).alloc (.cells #[.int .i64 t] 3)) (w.heap.size+1) 3 [.int .i64 f]∧Whole (((w.alloc (.cells #[a,b,c,d,e] 43)).alloc (.cells #[.int .i64 f] 3)).alloc (.cells #[.int .i64 t] 3)) (w.heap.size+1+1) 3 [.int .i64 t]:=by
 refine⟨⟨((Whole.new w _ _).alloc _).alloc _,(((Fr.refl [] w).alloc _).alloc _).alloc _⟩,?_,?_⟩
 ·have:=(Whole.new (w.alloc (.cells #[a,b,c,d,e] 43)) 3 [.int .i64 f]).alloc (.cells #[.int .i64 t] 3)
  simpa using this
 ·have:=Whole.new ((w.alloc (.cells #[a,b,c,d,e] 43)).alloc (.cells #[.int .i64 f] 3)) 3 [.int .i64 t]
  simpa using this
theorem zcc(x:Itm)(v:Value)(f t:Int)(w:World)(B:Nat)(hs:x.Small)(hB:B≤w.heap.size)(h:z0q w B v x) :
  Calls prog 202 #[v,.int .i64 f,.int .i64 t] w (znf (z48 x f t) (z02 5 x) w):=by
 have RD:=hid (fun W (hf:Fr [] w W)=>z6a x v W B hs (Nat.le_trans hB hf.size) (h.fr hf hB (by simp)))
 obtain⟨A1,c1,A2,c2,A3,c3,rfl,h1,h2,h3⟩:=h
 have H3:=hid h3
 obtain⟨b0,b1,b2⟩:=boxNN w (.int .i64 x.kind) (.string x.text) (.slice A1 x.list.length c1) (.slice A2 x.pairs.length c2) (.slice A3 x.scores.length c3) f t
 have D0:=hid b0
 have W0:=hid b1
 have X0:=hid b2
 obtain⟨d0,d1,d2,d3,d4⟩:=five D0.out.b
 have ER:=hid (show z48 x f t=if z02 5 x=0 then z6l x.scores f t else [] from rfl)
 clear h1 h2 h3 hs b0 b1 b2
 by_cases ha:z02 5 x=0
 ·have h24:=(z32 ha).2
  have EM:=hid (show z67 (fun _ s=>decide (f≤s.1)&&decide (s.1≤t)) x.scores x.scores.length=z6l x.scores f t from by
   rw[zb7 f t x.scores _ (Nat.le_refl _),List.take_length])
  have E1:=hid (ER.out.trans (if_pos ha))
  rw[E1.out,ha]
  rw[ha] at RD
  have MB:=hid (fun W (g h:Nat) (hF:Fr [] w W) (ca:W.cell? ⟨g,0,none⟩=some (.int .i64 f)) (cb:W.cell? ⟨h,0,none⟩=some (.int .i64 t)) (hg:g < W.heap.size) (hh:h < W.heap.size)=>
   zd7 259 #[.pointer (some ⟨g,0,none⟩),.pointer (some ⟨h,0,none⟩)] (z1x Tryz.func259 (by kernel_rfl) rfl) _ W.heap.size x.scores A3 c3 B W (zgc _ _ g h _ W ca cb hg hh) (by omega) (Nat.le_trans hB hF.size) (H3.out.fr hF hB (by simp)))
  rw[EM.out] at MB
  unfold z7h at MB
  clear ha ER E1 EM
  generalize z6l x.scores f t=r at *
  go_enter Tryz.func202,Tryz.ntmps202
  go_wp2_with fail
  refine(RD.out _ D0.out.f).mono ?_
  rintro e w1 ⟨rfl,f1⟩
  have D1:=hid (D0.out.go f1)
  have W1:=hid (W0.out.fr f1 (by simp))
  have X1:=hid (X0.out.fr f1 (by simp))
  have M:=hid (MB.out _ (w.heap.size+1) (w.heap.size+1+1) D1.out.f (W1.out.cell 0) (X1.out.cell 0) W1.out.lt X1.out.lt)
  clear d0 d1 d2 d3 d4
  obtain⟨d0,d1,d2,d3,d4⟩:=five D1.out.b
  go_wp2_with fail
  refine M.out.mono ?_
  rintro e w3 ⟨u,rfl,ho,f3⟩
  have hz:=D1.out.f.size
  have D3:=hid (D1.out.go f3)
  go_wp2
  go_ret2
  exact⟨u,rfl,z1d ho hz,D3.out.f⟩
 ·have E1:=hid (ER.out.trans (if_neg ha))
  rw[E1.out]
  have q:(z02 5 x != 0)=true:=by simpa using ha
  clear ha ER E1
  generalize z02 5 x=r at *
  go_enter Tryz.func202,Tryz.ntmps202
  go_wp2_with fail
  refine(RD.out _ D0.out.f).mono ?_
  rintro e w1 ⟨rfl,f1⟩
  have D1:=hid (D0.out.go f1)
  go_wp2
  go_ret2
  exact⟨_,rfl,World.ownsRow_nil _ _ _ _,D1.out.f⟩
end Go.Proofs.YtamgdmiopinidaaGreatDoor
