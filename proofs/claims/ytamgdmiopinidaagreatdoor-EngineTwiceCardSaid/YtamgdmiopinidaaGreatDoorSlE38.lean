/- Contracts that the proof of E3 uses. No condition beyond those in each theorem. -/
import Derived.Test.YtamgdmiopinidaaGreatDoorSlE37
set_option linter.unusedVariables false
set_option linter.unusedSimpArgs false
set_option maxHeartbeats 8000000
set_option maxRecDepth 100000
namespace Go.Proofs.YtamgdmiopinidaaGreatDoor
open Lib (hid)
open Tryz (prog)
open Go.RowKit
def z4g(i:Nat)(b:Bool)(w:World)(e:Ending)(w':World):Prop:=e=.returned (.tuple #[.int .i64 i,.bool b])∧Fr [] w w'
theorem z4t{S:List Nat}{B:Nat}{a b:World}(h:FrB S B a b){p:Addr}{v:Value}(hc:a.cell? p=some v)(hB:p.block < B)(hS:p.block∉S):b.cell? p=some v:=
 (World.cell?_of_block (h.block _ (World.block_lt_of_cell? a p hc) hB hS)).trans hc
theorem zq0{w w':World}{B D size n:Nat}{v:Value}{xs:List Value}(h:Sl w B size v n xs)(hf:FrB [] D w w')(hD:B≤D):Sl w' B size v n xs:=by
 obtain⟨A,c,e,hl,hc,hm,hr⟩:=h
 refine⟨A,c,e,hl,hc,hm,fun hn=>?_⟩
 obtain⟨g,off,e2,hg,hcell⟩:=hr hn
 exact⟨g,off,e2,hg,fun j u hu=>z4t hf (hcell j u hu) (Nat.lt_of_lt_of_le hg hD) (by simp)⟩
theorem zm0{α:Type}(p:α→Bool)(l:List α):l.any p=decide (z3c p l ≥ 0):=by
 unfold z3c
 cases hf:l.findIdx? p with
 | none=>
  rw[List.findIdx?_eq_none_iff] at hf
  show l.any p=decide ((-1:Int) ≥ 0)
  rw[List.any_eq_false.2 (fun x hx=>by simp[hf x hx])]
  rfl
 | some k=>
  rw[List.findIdx?_eq_some_iff_getElem] at hf
  obtain⟨hlt,he,_⟩:=hf
  rw[List.any_eq_true.2 ⟨_,List.getElem_mem hlt,he⟩]
  exact(decide_eq_true (show((k:Nat):Int) ≥ 0 by omega)).symm
theorem z6x(l:List ByteArray)(s:ByteArray)(A:Option Addr)(c B:Nat)(w:World)(hl:l.length≤281474976710656)(hB:B≤w.heap.size)(h:Sl w B 1 (.slice A l.length c) l.length (z03 l)) :
  Calls prog 235 #[.slice A l.length c,.string s] w fun e w'=>e=.returned (.bool (l.any fun y=>decide (y=s)))∧w=w':=by
 have HS:=hid h
 clear h
 have IX:Calls prog 277 #[.slice A l.length c,.string s] w fun e w'=>e=.returned (.int .i64 (z3c (fun y=>decide (y=s)) l))∧w=w':=by
  go_enter Tryz.func277,Tryz.ntmps277
  go_wp2
  go_loopg [5,8] l.length (fun g u i wr=>∃(k:Nat),g=l.length - k∧k≤l.length∧i=.int .i64 k∧(∀(j:Nat) t,j < k→l[j]? = some t→(fun y=>decide (y=s)) t=false)∧w=wr)
  case atStart=>exact⟨0,rfl,Nat.zero_le _,rfl,fun j t hj=>absurd hj (Nat.not_lt_zero _),rfl⟩
  case round=>
   obtain⟨k,rfl,hk,rfl,hno,rfl⟩:=hrel
   by_cases hlt:k < l.length
   ·obtain⟨b,off,rfl,hb,hc,hm,hcell⟩:=HS.out.at_ (by omega)
    obtain⟨t,ht⟩:∃t,l[k]? = some t:=⟨_,List.getElem?_eq_getElem hlt⟩
    have hc1:w.cell? ⟨b,off+k,none⟩=some (.string t):=hcell k _ (z15 l k t ht)
    by_cases hq:t=s
    ·have E:=hid (z2q hno ht (decide_eq_true hq))
     have q:(s.toList==t.toList)=true:=by have:=eqB s t;rw[decide_eq_true hq.symm] at this;exact this
     clear hno hcell ht hq
     go_wp2
     go_ret
     rw[E.out]
     exact⟨rfl,rfl⟩
    ·have q:(s.toList==t.toList)=false:=by have:=eqB s t;rw[decide_eq_false (fun e=>hq e.symm)] at this;exact this
     have N:=hid (fun j t' (hj:j < k+1) (ht':l[j]? = some t')=>(show(fun y=>decide (y=s)) t'=false by
      rcases Nat.lt_or_ge j k with h|h
      ·exact hno j t' h ht'
      ·have e:j=k:=by omega
       subst e
       rw[ht] at ht'
       cases ht'
       exact decide_eq_false hq))
     clear hno hcell ht hq
     go_wp2
     go_roundg (l.length - (k+1))
     case measure=>omega
     case rel=>exact⟨k+1,rfl,by omega,by go_num,N.out,rfl⟩
   ·have E:=hid (z39 (q:=fun y=>decide (y=s)) (l:=l) (fun j t ht=>hno j t (by have:=(List.getElem?_eq_some_iff.1 ht).1;omega) ht))
    clear hno
    go_wp2
    go_ret
    rw[E.out]
    exact⟨rfl,rfl⟩
 have EQ:=zm0 (fun y=>decide (y=s)) l
 have IX:=hid IX
 generalize z3c (fun y=>decide (y=s)) l=i at *
 generalize (l.any fun y=>decide (y=s))=b at *
 subst EQ
 go_enter Tryz.func235,Tryz.ntmps235
 go_wp2_with fail
 refine IX.out.mono ?_
 rintro e w1 ⟨rfl,rfl⟩
 go_wp2
 go_ret
 exact⟨rfl,rfl⟩
theorem zru(l:List (ByteArray×ByteArray))(f v:ByteArray)(A:Option Addr)(c B:Nat)(w:World)(hr:rises (ltK Prod.fst) l=true)(hl:l.length≤281474976710656)(hB:B≤w.heap.size)(h:Sl w B 2 (.slice A l.length c) l.length (z0e l)) :
  Calls prog 279 #[.slice A l.length c,.agg #[.string f,.string v],.func (Fn.func 123) #[] #[]] w (z4g (z1z Prod.fst l f) (z5r Prod.fst l f) w):=by
 have HS:=hid h
 have hlow:=z5b Prod.fst l f
 have HR:=hid hr
 have F0:=hid ((Fr.refl [] w).alloc (.cells #[.string f,.string v] 86))
 have B0:=hid (Whole.new w 86 [.string f,.string v])
 clear h hr
 go_enter Tryz.func279,Tryz.ntmps279
 go_wp2
 go_loopg [9,10] l.length (fun g s9 s10 wr=>∃(lo hi:Nat),g=hi - lo∧s9=.int .i64 lo∧s10=.int .i64 hi∧lo≤z1z Prod.fst l f∧z1z Prod.fst l f≤hi∧hi≤l.length∧Fr [] w wr∧Whole wr w.heap.size 86 [.string f,.string v])
 case atStart=>exact⟨0,l.length,rfl,rfl,rfl,Nat.zero_le _,hlow,Nat.le_refl _,F0.out,B0.out⟩
 case round=>
  obtain⟨lo,hi,rfl,rfl,rfl,h1,h2,h3,hf,hb⟩:=hrel
  have HF:=hid hf
  have HB:=hid hb
  clear hf hb
  by_cases hlt:lo < hi
  ·obtain⟨m,hm⟩:∃m,m=(lo+hi) / 2:=⟨_,rfl⟩
   have hml:m < l.length:=by omega
   obtain⟨b,off,rfl,hb,hc,hmx,hcell⟩:=HS.out.at_ (by omega)
   obtain⟨q,hq⟩:∃q,l[m]? = some q:=⟨_,List.getElem?_eq_getElem hml⟩
   have x1:w.cell? ⟨b,off+m * 2,none⟩=some (.string q.1):=by rw[Nat.mul_comm];exact hcell _ _ (z0g l m q hq).1
   have x2:w.cell? ⟨b,off+m * 2+1,none⟩=some (.string q.2):=by rw[Nat.mul_comm];exact hcell _ _ (z0g l m q hq).2
   have X1:=hid x1
   have X2:=hid x2
   have c1:=HF.out.cell x1 (by simp)
   have c2:=HF.out.cell x2 (by simp)
   have d1:wr.cell? ⟨w.heap.size,0,none⟩=some (.string f):=HB.out.cell 0
   have d2:wr.cell? ⟨w.heap.size,1,none⟩=some (.string v):=HB.out.cell 1
   have FL:=hid (fun W=>za9 q (f,v) W)
   have hmi:((lo:Int)+(hi:Int)) / 2=(m:Int):=by omega
   have hM:=hid hm
   have hnew:(z4m q.1 f < 0→m < z1z Prod.fst l f)∧(¬z4m q.1 f < 0→z1z Prod.fst l f≤m):=⟨fun h=>by
    rcases Nat.lt_or_ge m (z1z Prod.fst l f) with h'|h'
    ·exact h'
    ·exact absurd h (zev Prod.fst HR.out h' hq),fun h=>by
    rcases Nat.lt_or_ge m (z1z Prod.fst l f) with h'|h'
    ·exact absurd (z7g Prod.fst h' hq) h
    ·exact h'⟩
   rw[show((f,v):ByteArray×ByteArray).1=f from rfl] at FL
   have HN:=hid hnew
   clear x1 x2 hcell hq hnew hm
   generalize z4m q.1 f=o at *
   by_cases ho:o < 0
   ·have hn:=HN.out.1 ho
    go_wp2
    clear hmi
    go_region_held3 (fun wx=>wx.cell? ⟨b,off+m * 2,none⟩=some (.string q.1)∧wx.cell? ⟨b,off+m * 2+1,none⟩=some (.string q.2)∧wx.cell? ⟨w.heap.size,0,none⟩=some (.string f)∧wx.cell? ⟨w.heap.size,1,none⟩=some (.string v)) (go_keep) (first|(go_at_call 123;(refine(FL.out _).mono ?_);rintro e w2 ⟨rfl,f2⟩;have G2:=hid (z01 f2);have c1:=G2.out.cell c1 (by simp);have c2:=G2.out.cell c2 (by simp);have d1:=G2.out.cell d1 (by simp);have d2:=G2.out.cell d2 (by simp);clear f2))
    go_wp2
    go_roundg (hi - (m+1))
    case measure=>have:=hM.out;omega
    case rel=>exact⟨m+1,hi,rfl,by go_num,rfl,by omega,h2,h3,HF.out.trans G2.out,HB.out.fr G2.out (by simp)⟩
   ·have hn:=HN.out.2 ho
    go_wp2
    clear hmi
    go_region_held3 (fun wx=>wx.cell? ⟨b,off+m * 2,none⟩=some (.string q.1)∧wx.cell? ⟨b,off+m * 2+1,none⟩=some (.string q.2)∧wx.cell? ⟨w.heap.size,0,none⟩=some (.string f)∧wx.cell? ⟨w.heap.size,1,none⟩=some (.string v)) (go_keep) (first|(go_at_call 123;(refine(FL.out _).mono ?_);rintro e w2 ⟨rfl,f2⟩;have G2:=hid (z01 f2);have c1:=G2.out.cell c1 (by simp);have c2:=G2.out.cell c2 (by simp);have d1:=G2.out.cell d1 (by simp);have d2:=G2.out.cell d2 (by simp);clear f2))
    go_wp2
    go_roundg (m - lo)
    case measure=>have:=hM.out;omega
    case rel=>exact⟨lo,m,rfl,rfl,rfl,h1,hn,by omega,HF.out.trans G2.out,HB.out.fr G2.out (by simp)⟩
  ·obtain rfl:hi=lo:=by omega
   obtain⟨lw,hlw⟩:∃lw,lw=z1z Prod.fst l f:=⟨_,rfl⟩
   obtain rfl:hi=lw:=by omega
   have HL:=hid hlw
   have d1:wr.cell? ⟨w.heap.size,0,none⟩=some (.string f):=HB.out.cell 0
   have d2:wr.cell? ⟨w.heap.size,1,none⟩=some (.string v):=HB.out.cell 1
   by_cases hn:hi < l.length
   ·obtain⟨b,off,rfl,hb,hc,hmx,hcell⟩:=HS.out.at_ (by omega)
    obtain⟨q,hq⟩:∃q,l[hi]? = some q:=⟨_,List.getElem?_eq_getElem hn⟩
    have c1:=HF.out.cell (show w.cell? ⟨b,off+hi * 2,none⟩=some (.string q.1) by rw[Nat.mul_comm];exact hcell _ _ (z0g l hi q hq).1) (by simp)
    have c2:=HF.out.cell (show w.cell? ⟨b,off+hi * 2+1,none⟩=some (.string q.2) by rw[Nat.mul_comm];exact hcell _ _ (z0g l hi q hq).2) (by simp)
    have FL:=hid (fun W=>za9 q (f,v) W)
    rw[show((f,v):ByteArray×ByteArray).1=f from rfl] at FL
    have HH:=hid (show z5r Prod.fst l f=decide (z4m q.1 f=0) from by unfold z5r;rw[←hlw,hq])
    clear hcell hq hlw h1 h2
    generalize z4m q.1 f=o at *
    by_cases ho:o=0
    ·subst ho
     have HH2:=hid (HH.out.trans (decide_eq_true rfl))
     clear HH
     go_wp2
     go_region_held3 (fun wx=>wx.cell? ⟨b,off+hi * 2,none⟩=some (.string q.1)∧wx.cell? ⟨b,off+hi * 2+1,none⟩=some (.string q.2)∧wx.cell? ⟨w.heap.size,0,none⟩=some (.string f)∧wx.cell? ⟨w.heap.size,1,none⟩=some (.string v)) (go_keep) (first|(go_at_call 123;(refine(FL.out _).mono ?_);rintro e w2 ⟨rfl,f2⟩;have G2:=hid (z01 f2);have c1:=G2.out.cell c1 (by simp);have c2:=G2.out.cell c2 (by simp);have d1:=G2.out.cell d1 (by simp);have d2:=G2.out.cell d2 (by simp);clear f2))
     go_wp2
     go_ret2
     refine⟨?_,HF.out.trans G2.out⟩
     rw[←HL.out,HH2.out]
     rfl
    ·have q1:(o==0)=false:=by simpa using ho
     have HH2:=hid (HH.out.trans (decide_eq_false ho))
     clear ho HH
     go_wp2
     go_region_held3 (fun wx=>wx.cell? ⟨b,off+hi * 2,none⟩=some (.string q.1)∧wx.cell? ⟨b,off+hi * 2+1,none⟩=some (.string q.2)∧wx.cell? ⟨w.heap.size,0,none⟩=some (.string f)∧wx.cell? ⟨w.heap.size,1,none⟩=some (.string v)) (go_keep) (first|(go_at_call 123;(refine(FL.out _).mono ?_);rintro e w2 ⟨rfl,f2⟩;have G2:=hid (z01 f2);have c1:=G2.out.cell c1 (by simp);have c2:=G2.out.cell c2 (by simp);have d1:=G2.out.cell d1 (by simp);have d2:=G2.out.cell d2 (by simp);clear f2))
     go_wp2
     go_ret2
     refine⟨?_,HF.out.trans G2.out⟩
     rw[←HL.out,HH2.out]
     rfl
   ·have HH:=hid (show z5r Prod.fst l f=false from by unfold z5r;rw[←hlw,List.getElem?_eq_none (by omega)])
    have hn':decide ((hi:Int) < (l.length:Int))=false:=by simpa using hn
    clear hlw h1 h2
    go_wp2
    go_quiet (fail)
    go_wp2
    go_ret2
    refine⟨?_,HF.out.drewN _⟩
    rw[←HL.out,HH.out]
    rfl
theorem zhl(l:List (ByteArray×ByteArray))(f:ByteArray)(A:Option Addr)(c B:Nat)(w:World)(hr:rises (ltK Prod.fst) l=true)(hl:l.length≤281474976710656)(hB:B≤w.heap.size)(h:Sl w B 2 (.slice A l.length c) l.length (z0e l)) :
  Calls prog 243 #[.slice A l.length c,.string f] w (z4g (z1z Prod.fst l f) (z5r Prod.fst l f) w):=by
 have BI:=hid (zru l f ⟨#[]⟩ A c B w hr hl hB h)
 clear h hr
 generalize z1z Prod.fst l f=i at *
 generalize z5r Prod.fst l f=b at *
 go_enter Tryz.func243,Tryz.ntmps243
 go_wp2_with fail
 refine BI.out.mono ?_
 rintro e w1 ⟨rfl,f1⟩
 go_wp2
 go_ret2
 exact⟨rfl,f1⟩
theorem zap(n:Nat)(xs:List Value)(A:Option Addr)(c:Nat)(w:World)(B:Nat)(hl:n≤1000000)(hB:B≤w.heap.size)(h:Sl w B 2 (.slice A n c) n xs)(h1:∀u∈xs,u.oneCell'=true) :
  Calls prog 143 #[.slice A n c] w (z7h 86 2 n xs w):=by
 obtain⟨i0,hi,hz0,hz1,hz2⟩:=info_parts z97
 have q29:∀(w:World) (a:Option Addr) (n c n' c':Nat),(binOp .eql 40 (.slice a n c) (.slice none n' c')).run prog w=.ok (.bool a.isNone) w:=fun w a n c n' c'=>Lib.run_eql_slice_nil w _ _ a n c n' c' Tryz.underlying40
 cases A with
 | none=>
  obtain⟨A',c',e,hlx,hc,hm,hr⟩:=h
  cases e
  have h0:n=0:=by
   rcases Nat.eq_zero_or_pos n with h0|h0
   ·exact h0
   ·obtain⟨_,_,h,_⟩:=hr h0
    cases h
  subst h0
  obtain rfl:xs=[]:=List.eq_nil_of_length_eq_zero (by omega)
  clear hr h1
  go_enter Tryz.func143,Tryz.ntmps143
  go_wp2
  go_ret
  exact⟨_,rfl,World.ownsRow_nil _ _ _ _,Fr.refl [] w⟩
 | some ad=>
  have hO:=(World.ownsRow_lit (base:=w.heap.size) (e:=86) (size:=2) w #[] 0 (Nat.le_refl _) (Nat.zero_le _) rfl)
  have hsl:=h.fr ((Fr.refl [] w).alloc (.cells #[] 86)) hB (by simp)
  have H1:=hid h1
  have HS:=hid hsl
  clear h h1 hsl
  go_enter Tryz.func143,Tryz.ntmps143
  go_wp2_with (at_builtin;refine z0i _ rfl _ _ 40 rfl w.heap.size 86 i0 _ 2 32 Tryz.underlying40 hi hz0 hz1 hz2 rfl (by decide) _ _ _ rfl hO B _ n xs rfl HS.out H1.out ?c1 ?c2 (by simp) ?_)
  case c1=>unfold maxLen;omega
  case c2=>omega
  intro v' w2 hown' hgrow hat
  go_wp2
  go_ret
  refine⟨_,rfl,by simpa using hown',((Fr.refl [] w).alloc _).grown hgrow (fun k hk=>?_)⟩
  simp[Value.ownBlock] at hk
  subst hk
  exact .inr (Nat.le_refl _)
def zlv(g:Nat)(lb:Array Value)(p:(ByteArray×ByteArray)→Bool)(B:Nat)(w:World):Prop:=
 ∀W (x:(ByteArray×ByteArray)),FrB [] B w W→Calls prog g (#[.agg #[.string x.1,.string x.2]]++lb) W fun e w'=>e=.returned (.bool (p x))∧Fr [] W w'
theorem zkf(g:Nat)(lb:Array Value)(eg:∀args w,(callFunc g args).run prog w=.ok (.enter g args) w)(p:(ByteArray×ByteArray)→Bool)(D:Nat)(l:List (ByteArray×ByteArray))(A:Option Addr)(c B:Nat)(w:World)(hp:zlv g lb p D w)(hl:l.length≤281474976710656)(hB:B≤w.heap.size)
  (hsl:Sl w B 2 (.slice A l.length c) l.length (z0e l)) :
  Calls prog 218 #[.slice A l.length c,.func (Fn.func g) #[] lb] w fun e w'=>e=.returned (.int .i64 (z3c p l))∧Fr [] w w':=by
 have HS:=hid hsl
 have HP:=hid hp
 clear hsl hp
 go_enter Tryz.func218,Tryz.ntmps218
 go_wp2
 go_loopg [5,8] l.length (fun g u i wr=>∃(k:Nat),g=l.length - k∧k≤l.length∧i=.int .i64 k∧(∀j t,j < k→l[j]? = some t→p t=false)∧Fr [] w wr)
 case atStart=>exact⟨0,rfl,Nat.zero_le _,rfl,fun j t hj=>absurd hj (Nat.not_lt_zero _),Fr.refl _ _⟩
 case round=>
  obtain⟨k,rfl,hk,rfl,hno,hf⟩:=hrel
  by_cases hlt:k < l.length
  ·obtain⟨b,off,rfl,hb,hc,hm,hcell⟩:=HS.out.at_ (by omega)
   obtain⟨s,hs⟩:∃s,l[k]? = some s:=⟨_,List.getElem?_eq_getElem hlt⟩
   have hc1:wr.cell? ⟨b,off+2 * k,none⟩=some (.string s.1):=hf.cell (hcell _ _ (z0g l k s hs).1) (by simp)
   have hc2:wr.cell? ⟨b,off+2 * k+1,none⟩=some (.string s.2):=hf.cell (hcell _ _ (z0g l k s hs).2) (by simp)
   rw[Nat.mul_comm 2 k] at hc1 hc2
   have L:=hid (fun W (hW:Fr [] wr W)=>HP.out W s ((hf.toB D).trans (hW.toB D)))
   have HF:=hid hf
   have F1:=hid (Fr.refl [] wr)
   by_cases hq:p s=true
   ·have E:=hid (z2q hno hs hq)
    rw[hq] at L
    clear hno hcell hs hq hf
    go_wp2_with fail
    refine(L.out _ F1.out).mono ?_
    rintro e w1 ⟨rfl,h1⟩
    go_wp2
    go_ret
    rw[E.out]
    exact⟨rfl,HF.out.trans h1⟩
   ·have hq':p s=false:=by simpa using hq
    rw[hq'] at L
    have N:=hid (fun j t (hj:j < k+1) (ht:l[j]? = some t)=>(show p t=false by
     rcases Nat.lt_or_ge j k with h|h
     ·exact hno j t h ht
     ·have e:j=k:=by omega
      subst e
      rw[hs] at ht
      cases ht
      exact hq'))
    clear hno hcell hs hq hq' hf
    go_wp2_with fail
    refine(L.out _ F1.out).mono ?_
    rintro e w1 ⟨rfl,h1⟩
    go_wp2
    go_roundg (l.length - (k+1))
    case measure=>omega
    case rel=>exact⟨k+1,rfl,by omega,rfl,N.out,HF.out.trans h1⟩
  ·have E:=hid (z39 (q:=p) (l:=l) (fun j t ht=>hno j t (by have:=(List.getElem?_eq_some_iff.1 ht).1;omega) ht))
   clear hno
   go_wp2
   go_ret
   rw[E.out]
   exact⟨rfl,hf⟩
def zhy(ys:List (ByteArray×ByteArray))(base:Nat)(v:Value)(w:World)(e:Ending)(w':World):Prop:=
 ∃v',e=.returned v'∧w'.ownsRow base 86 2 v' ys.length (z0e ys)∧Fr (z2l v) w w'∧v'.ownBlock=v.ownBlock
theorem zx4:∀w,(zeroValue 86).run prog w=.ok (.agg #[.string ⟨#[]⟩,.string ⟨#[]⟩]) w:=fun w=>by kernel_rfl
theorem zpm(g:Nat)(lb:Array Value)(eg:∀args w,(callFunc g args).run prog w=.ok (.enter g args) w)(p:(ByteArray×ByteArray)→Bool)(D:Nat)(l:List (ByteArray×ByteArray))(base:Nat)(v:Value)(w:World)(hp:zlv g lb p D w)(hD:D≤base)(hl:l.length≤1000000)
  (h:w.ownsRow base 86 2 v l.length (z0e l)) :
  Calls prog 246 #[v,.func (Fn.func g) #[] lb] w (zhy (l.filter fun x=>!p x) base v w):=by
 obtain⟨A,c,rfl,hA,hc,hm⟩:=z06 h
 have I:=hid (zkf g lb eg p D l A c w.heap.size w hp (by omega) (Nat.le_refl _) (z0t h))
 rcases z6s p l with⟨e1,e2⟩|⟨k0,s0,e1,hk0,hK⟩
 ·rw[e1] at I
  have H:=hid h
  have E2:=hid e2
  clear h e1 e2 hp
  go_enter Tryz.func246,Tryz.ntmps246
  go_wp2_with fail
  refine I.out.mono ?_
  rintro e w1 ⟨rfl,h1⟩
  go_wp2
  go_ret
  rw[E2.out]
  exact⟨_,rfl,z0n H.out h1 (by simp),h1.up,rfl⟩
 ·rw[e1] at I
  obtain⟨gb,rfl⟩:∃gb,A=some ⟨gb,0,none⟩:=by
   rcases hA with rfl|⟨gb,rfl⟩
   ·exfalso
    rcases h.2 with⟨_,h0⟩|⟨g',cap',cur,h',_⟩
    ·omega
    ·cases h'
   ·exact⟨gb,rfl⟩
  have hgb:=(h.lt gb rfl)
  have H:=hid h
  have HP:=hid hp
  have HK:=hid hK
  have hne1:((k0:Int)==-1)=false:=beq_eq_false_iff_ne.2 (by omega)
  unfold maxLen at hm
  clear h hp hK e1 hA
  go_enter Tryz.func246,Tryz.ntmps246
  go_wp2_with fail
  refine I.out.mono ?_
  rintro e w1 ⟨rfl,h1⟩
  have HF1:=hid h1
  clear h1
  go_wp2
  go_loopg [5,6] (l.length - (k0+1)) (fun gg s5 s6 wr=>∃(i j:Nat) (d:List (ByteArray×ByteArray)),gg=l.length - j∧s5=.int .i64 i∧s6=.int .i64 j∧Kept p l d i j∧wr.ownsRow base 86 2 (.slice (some ⟨gb,0,none⟩) l.length c) l.length (z0e d)∧Fr [gb] w wr)
  case atStart=>exact⟨k0,k0+1,l,rfl,rfl,by go_num,HK.out,z0n H.out HF1.out (by simp),HF1.out.up⟩
  case round=>
   obtain⟨i,j,d,rfl,rfl,rfl,hK,hO,hF⟩:=hrel
   have HK:=hid hK
   have HO:=hid hO
   have HF:=hid hF
   have hij:=hK.lt
   have hjl:=hK.le
   have hdl:=hK.len
   have hsz:=hF.size
   clear I HF1
   by_cases hlt:j < l.length
   ·obtain⟨s,hs⟩:∃s,l[j]? = some s:=⟨_,List.getElem?_eq_getElem hlt⟩
    have hd:d[j]? = some s:=(hK.behind j (Nat.le_refl _)).trans hs
    have L:=hid (fun W (hW:Fr [] wr W)=>HP.out W s ((hF.toB D).more (T:=[]) (by intro k hk;simp at hk;subst hk;exact .inr (by omega)) |>.trans (hW.toB D)))
    have HS:=hid hs
    have x1:wr.cell? ⟨gb,j * 2,none⟩=some (.string s.1):=(hO.cellAt (j * 2) (by omega)).trans (by rw[Nat.mul_comm];exact(z0g d j s hd).1)
    have x2:wr.cell? ⟨gb,j * 2+1,none⟩=some (.string s.2):=(hO.cellAt (j * 2+1) (by omega)).trans (by rw[Nat.mul_comm];exact(z0g d j s hd).2)
    have F1:=hid ((Fr.refl [] wr).alloc (.cells #[.string s.1,.string s.2] 86))
    have V1:=hid (Whole.new wr 86 [.string s.1,.string s.2])
    clear hK hO hF hs hd
    by_cases hq:p s=true
    ·rw[hq] at L
     have HQ:=hid hq
     clear hq
     go_wp2_with fail
     refine(L.out _ F1.out).mono ?_
     rintro e w2 ⟨rfl,h2⟩
     have f2:=hid (F1.out.trans h2)
     clear h2
     go_wp2
     go_roundg (l.length - (j+1))
     case measure=>omega
     case rel=>exact⟨i,j+1,d,rfl,rfl,by go_num,HK.out.skip HS.out HQ.out,z0n HO.out f2.out (by simp),HF.out.trans f2.out.up⟩
    ·have hq':p s=false:=by simpa using hq
     rw[hq'] at L
     have HQ:=hid hq'
     clear hq hq'
     obtain⟨s',hs'⟩:∃s',d[i]? = some s':=⟨_,List.getElem?_eq_getElem (by omega)⟩
     have HS':=hid hs'
     clear hs'
     go_wp2_with fail
     refine(L.out _ F1.out).mono ?_
     rintro e w2 ⟨rfl,h2⟩
     have f2:=hid (F1.out.trans h2)
     have HO2:=hid (z0n HO.out f2.out (by simp))
     have V2:=V1.out.fr h2 (by simp)
     have v1:w2.cell? ⟨wr.heap.size,0,none⟩=some (.string s.1):=V2.cell 0
     have v2:w2.cell? ⟨wr.heap.size,1,none⟩=some (.string s.2):=V2.cell 1
     have y1:w2.cell? ⟨gb,i * 2,none⟩=some (.string s'.1):=(HO2.out.cellAt (i * 2) (by omega)).trans (by rw[Nat.mul_comm];exact(z0g d i s' HS'.out).1)
     have y2:w2.cell? ⟨gb,i * 2+1,none⟩=some (.string s'.2):=(HO2.out.cellAt (i * 2+1) (by omega)).trans (by rw[Nat.mul_comm];exact(z0g d i s' HS'.out).2)
     have z1:w2.frozen? ⟨gb,i * 2,none⟩=false:=HO2.out.frozenAt _
     have z2:w2.frozen? ⟨gb,i * 2+1,none⟩=false:=HO2.out.frozenAt _
     clear V2
     clear h2
     go_wp2
     go_roundg (l.length - (j+1))
     case measure=>omega
     case rel=>
      have o1:=HO2.out.stored (i * 2) (.string s.1)
      have o2:=o1.1.stored (i * 2+1) (.string s.2)
      exact⟨i+1,j+1,d.set i s,rfl,by go_num,by go_num,HK.out.keep HS.out HQ.out,by rw[zar];exact o2.1,((HF.out.trans f2.out.up).setCell (p:=⟨gb,i * 2,none⟩) (.inl (by simp)) _).setCell (p:=⟨gb,i * 2+1,none⟩) (.inl (by simp)) _⟩
   ·obtain rfl:j=l.length:=by omega
    have hdone:=hK.done
    obtain⟨cur,w0,l0,t0,hb0,_,_,hxl⟩:=z28 hO
    obtain⟨zs,hzs⟩:∃zs,zs=(Builtin.zeroCells (Value.cells (.agg #[.string ⟨#[]⟩,.string ⟨#[]⟩])) (l.length - i)).toList:=⟨_,rfl⟩
    have hzl:zs.length=(l.length - i) * 2:=by rw[hzs];simp[Builtin.zeroCells,Value.cells]
    have hcl:∀ty,(Builtin.clear_ #[40] ty #[.slice (some ⟨gb,i * 2,none⟩) (l.length - i) (c - i)]).run prog wr=.ok (.tuple #[]) (wr.setCells gb (i * 2) zs):=fun ty=>by
     have:=z3j (P:=prog) wr 40 86 ty (.agg #[.string ⟨#[]⟩,.string ⟨#[]⟩]) Tryz.underlying40 zx4 (by intro u hu;simp[Value.cells] at hu;rcases hu with rfl|rfl <;> rfl) gb (i * 2) (l.length - i) (c - i) (by omega) (fun t ht=>by
      exact z0k w0 (o:=i * 2) (m:=(l.length - i) * 2) (by omega) t (by simpa[Value.cells] using ht))
     rw[←hzs] at this
     exact this
    have W1:=z16 zs (i * 2) wr cur w0 (by omega)
    have O1:=z34 (cap:=c) (k:=2) (n:=i) (base:=base) W1 (by simp only[List.length_append,List.length_take,List.length_drop,l0,hzl];omega) hb0 (by omega) (by unfold maxLen;omega)
    rw[List.append_assoc,List.take_append_of_le_length (by rw[List.length_take];omega),List.take_take,Nat.min_eq_left (by omega)] at O1
    have e5:cur.take (i * 2)=z0e (l.filter fun x=>!p x):=by
     rw[←hdone,←z6v,←t0,List.take_take,Nat.min_eq_left (by omega)]
    have e6:i=(l.filter fun x=>!p x).length:=by rw[←hdone,List.length_take];omega
    rw[e5] at O1
    have HO1:=hid O1
    have HE:=hid e6
    have G1:=hid (z09 (g:=gb) zs (i * 2) wr)
    have hic:i < c:=by omega
    clear hK hO hF w0 l0 t0 hb0 hxl hzs hzl W1 O1 e5 e6 hdone hdl HK HO
    go_wp2
    go_ret
    have e6:=HE.out
    refine⟨_,rfl,?_,?_,rfl⟩
    ·rw[←e6]
     exact HO1.out
    ·exact HF.out.grown G1.out (fun k hk=>by cases hk;exact .inl (by simp))
end Go.Proofs.YtamgdmiopinidaaGreatDoor
