/- Contracts that the proof of E3 uses. No condition beyond those in each theorem. -/
import Derived.Test.YtamgdmiopinidaaGreatDoorSlE33
import Derived.Deep.DrawnRows
import Derived.Deep.RegionHeld3
import Derived.Deep.RegionLaw
import Derived.Laws.BitsAllLaws
import Derived.Laws.BitsLemmas
import Derived.Laws.Externs
import Derived.Lib.AppendStr
import Derived.Lib.Builder
import Derived.Lib.ConvBytes
import Derived.Lib.Strings
import Derived.Lib.UnsafeStr
import Derived.RegionTactic
set_option linter.unusedVariables false
set_option linter.unusedSimpArgs false
set_option maxHeartbeats 8000000
set_option maxRecDepth 100000
namespace Go.Proofs.YtamgdmiopinidaaGreatDoor
open Lib (hid)
open Tryz (prog)
open Go.RowKit
theorem z3o:(prog.info? 9).map (fun i=>(i.zero,i.size,i.bytes))=some (some (.string ⟨#[]⟩),1,16):=by kernel_rfl
theorem z97:(prog.info? 86).map (fun i=>(i.zero,i.size,i.bytes))=some (some (.agg #[.string ⟨#[]⟩,.string ⟨#[]⟩]),2,32):=by kernel_rfl
theorem z66:(prog.info? 91).map (fun i=>(i.zero,i.size,i.bytes))=some (some (.agg #[.int .i64 0,.string ⟨#[]⟩]),2,24):=by kernel_rfl
def z0l(w:World)(base:Nat)(v:Value)(x:Itm):Prop:=
 ∃v1 v2 v3,v=.agg #[.int .i64 x.kind,.string x.text,v1,v2,v3]∧w.ownsRow base 9 1 v1 x.list.length (z03 x.list)∧w.ownsRow base 86 2 v2 x.pairs.length (z0e x.pairs)∧w.ownsRow base 91 2 v3 x.scores.length (z08 x.scores)
theorem z7j{w:World}{B size n:Nat}{v:Value}{xs:List Value}(h:Sl w B size v n xs):∃A c,v=.slice A n c:=by
 obtain⟨A,c,e,_⟩:=h
 exact⟨A,c,e⟩
theorem z0l.item{w:World}{base:Nat}{v:Value}{x:Itm}(h:z0l w base v x):z0q w w.heap.size v x:=by
 obtain⟨v1,v2,v3,rfl,o1,o2,o3⟩:=h
 have s1:=z0t o1
 have s2:=z0t o2
 have s3:=z0t o3
 obtain⟨A1,c1,rfl⟩:=z7j s1
 obtain⟨A2,c2,rfl⟩:=z7j s2
 obtain⟨A3,c3,rfl⟩:=z7j s3
 exact⟨A1,c1,A2,c2,A3,c3,rfl,s1,s2,s3⟩
theorem z1d{w:World}{base base' e size n:Nat}{v:Value}{xs:List Value}(h:w.ownsRow base e size v n xs)(hb:base'≤base):w.ownsRow base' e size v n xs:=by
 refine⟨h.1,?_⟩
 rcases h.2 with hz|⟨g,cap,cur,rfl,hbg,rest⟩
 ·exact .inl hz
 ·exact .inr ⟨g,cap,cur,rfl,by omega,rest⟩
theorem z0l.nothing(w:World)(base:Nat):z0l w base (.agg #[.int .i64 0,.string ⟨#[]⟩,.slice none 0 0,.slice none 0 0,.slice none 0 0]) (z2r 0):=
 ⟨_,_,_,rfl,World.ownsRow_nil _ _ _ _,⟨rfl,.inl ⟨rfl,rfl⟩⟩,⟨rfl,.inl ⟨rfl,rfl⟩⟩⟩
theorem z10{w:World}{g t:Nat}{a b c d e:Value}(h:Whole w g t [a,b,c,d,e]) :
  w.frozen? ⟨g,0,none⟩=false∧w.frozen? ⟨g,1,none⟩=false∧w.frozen? ⟨g,2,none⟩=false∧w.frozen? ⟨g,3,none⟩=false∧w.frozen? ⟨g,4,none⟩=false:=
 ⟨h.frozen 0,h.frozen 1,h.frozen 2,h.frozen 3,h.frozen 4⟩
theorem z1c(n:Nat)(hn:n < 256):(z2r n).Small:=
 ⟨⟨by show -9223372036854775808≤(n:Int);omega,by show(n:Int)≤9223372036854775807;omega⟩,by show(0:Nat)≤_;omega,by show(0:Nat)≤_;omega,by show(0:Nat)≤_;omega,by show(0:Nat)≤_;omega,fun s hs=>absurd hs (by simp[z2r]),fun s hs=>absurd hs (by simp[z2r]),fun s hs=>absurd hs (by simp[z2r])⟩
def zr4(w:World)(o:Nat)(a b c d e:Value):World:=((((w.setCell ⟨o,0,none⟩ a).setCell ⟨o,1,none⟩ b).setCell ⟨o,2,none⟩ c).setCell ⟨o,3,none⟩ d).setCell ⟨o,4,none⟩ e
theorem zsg{w:World}{base e0 size n:Nat}{v:Value}{xs:List Value}{o T:Nat}{cs:List Value}(h:w.ownsRow base e0 size v n xs)(hw:Whole w o T cs)(hT:T≠e0)(a b c d e:Value):(zr4 w o a b c d e).ownsRow base e0 size v n xs:=by
 have hn:=z9k h hw hT
 exact z22 _ (z22 _ (z22 _ (z22 _ (z22 _ h hn) hn) hn) hn) hn
structure zuc(x:Itm):Prop where
 kind:1≤x.kind∧x.kind≤5
 bare:z6g x=true
 many:many x≤24
 text:x.text.size≤60
 texts:∀s∈x.list,s.size≤60
 fields:∀p∈x.pairs,p.1.size≤60∧p.2.size≤60
 members:∀p∈x.scores,z0m p.1=true∧p.2.size≤60
theorem zfc{l:List (Int×ByteArray)}(h:z1h l=0):(∀p∈l,z0m p.1=true)∧(l.map (·.2)).Nodup∧rises ltC l=true:=by
 unfold z1h at h
 by_cases h1:(l.any fun p=>!z0m p.1)=true
 ·rw[if_pos h1] at h;cases h
 ·rw[if_neg h1] at h
  by_cases h2:¬(l.map (·.2)).Nodup
  ·rw[if_pos h2] at h;cases h
  ·rw[if_neg h2] at h
   by_cases h3:rises ltC l=true
   ·refine⟨fun p hp=>?_,Decidable.not_not.1 h2,h3⟩
    have h1':(l.any fun p=>!z0m p.1)=false:=by
     cases hc:(l.any fun p=>!z0m p.1) with
     | false=>rfl
     | true=>exact absurd hc h1
    have:=List.any_eq_false.1 h1' p hp
    simpa using this
   ·rw[if_neg h3] at h;cases h
theorem z4h{x:Itm}(h:z0d x=0):zuc x:=by
 unfold z0d at h
 by_cases h1:¬(1≤x.kind∧x.kind≤5)
 ·rw[if_pos h1] at h;cases h
 rw[if_neg h1] at h
 by_cases h2:z6g x=false
 ·rw[if_pos h2] at h;cases h
 rw[if_neg h2] at h
 have hb:z6g x=true:=by simpa using h2
 have hform:=hb
 simp only[z6g,Bool.and_eq_true,Bool.or_eq_true,beq_iff_eq] at hform
 by_cases h3:x.kind=1
 ·rw[if_pos h3] at h
  by_cases h4:60 < x.text.size
  ·rw[if_pos h4] at h;cases h
  ·have l1:x.list.length=0:=by omega
   have l2:x.pairs.length=0:=by omega
   have l3:x.scores.length=0:=by omega
   refine⟨Decidable.not_not.1 h1,hb,by unfold Go.Proofs.YtamgdmiopinidaaGreatDoor.many;omega,by omega,?_,?_,?_⟩
   ·rw[List.eq_nil_of_length_eq_zero l1];intro s hs;cases hs
   ·rw[List.eq_nil_of_length_eq_zero l2];intro s hs;cases hs
   ·rw[List.eq_nil_of_length_eq_zero l3];intro s hs;cases hs
 rw[if_neg h3] at h
 by_cases h4:Go.Proofs.YtamgdmiopinidaaGreatDoor.many x=0
 ·rw[if_pos h4] at h;cases h
 rw[if_neg h4] at h
 by_cases h5:24 < Go.Proofs.YtamgdmiopinidaaGreatDoor.many x∨z9n x=true
 ·rw[if_pos h5] at h;cases h
 rw[if_neg h5] at h
 by_cases h6:(x.kind=3∧rises ltS x.list=false)∨(x.kind=4∧rises ltP x.pairs=false)
 ·rw[if_pos h6] at h;cases h
 rw[if_neg h6] at h
 have hs:=zfc h
 have hl:z9n x=false:=by simpa using fun e=>h5 (.inr e)
 unfold z9n at hl
 simp only[Bool.or_eq_false_iff] at hl
 refine⟨Decidable.not_not.1 h1,hb,by omega,by omega,?_,?_,?_⟩
 ·intro s hs
  have:=List.any_eq_false.1 hl.1.1 s hs
  simp[z40] at this
  exact this
 ·intro p hp
  have:=List.any_eq_false.1 hl.1.2 p hp
  simp[z4p] at this
  exact this
 ·intro p hp
  have:=List.any_eq_false.1 hl.2 p hp
  simp[z8l] at this
  exact⟨hs.1 p hp,this⟩
def Ahead{α:Type}(a b:List α)(m:Nat):Prop:=∀j,j < m→a[j]? = b[j]?
theorem zan{α:Type}(a b:List α):Ahead a b 0:=fun j hj=>absurd hj (Nat.not_lt_zero _)
theorem zai{α:Type}{a b:List α}{m:Nat}{s:α}(h:Ahead a b m)(ha:a[m]? = some s)(hb:b[m]? = some s):Ahead a b (m+1):=by
 intro j hj
 rcases Nat.lt_or_ge j m with h1|h1
 ·exact h j h1
 ·have e:j=m:=by omega
  rw[e,ha,hb]
theorem zc5{α:Type}{a b:List α}{m:Nat}(h:Ahead a b m)(ha:a.length≤m)(hl:a.length=b.length):a=b:=by
 apply List.ext_getElem?
 intro j
 rcases Nat.lt_or_ge j m with h1|h1
 ·exact h j h1
 ·rw[List.getElem?_eq_none (by omega),List.getElem?_eq_none (by omega)]
theorem zel{α:Type}{a b:List α}{m:Nat}{s t:α}(ha:a[m]? = some s)(hb:b[m]? = some t)(hne:s≠t):a≠b:=by
 rintro rfl
 rw[ha] at hb
 injection hb with hb
 exact hne hb
def zdi(a b:List ByteArray):Bool:=decide (a=b)
theorem zwf{s t:ByteArray}(h:s≠t):(s.toList==t.toList)=false∧(s.toList != t.toList)=true:=by
 have:=eqB s t
 rw[decide_eq_false h] at this
 exact⟨this,by rw[bne,this];rfl⟩
theorem zts(s:ByteArray):(s.toList==s.toList)=true∧(s.toList != s.toList)=false:=by
 have:=eqB s s
 rw[decide_eq_true rfl] at this
 exact⟨this,by rw[bne,this];rfl⟩
theorem z9z(a b:List ByteArray)(A1 A2:Option Addr)(c1 c2 B:Nat)(w:World)(la:a.length≤281474976710656)(lb:b.length≤281474976710656)(hB:B≤w.heap.size)
  (h1:Sl w B 1 (.slice A1 a.length c1) a.length (z03 a)) (h2:Sl w B 1 (.slice A2 b.length c2) b.length (z03 b)) :
  Calls prog 69 #[.slice A1 a.length c1,.slice A2 b.length c2] w fun e w'=>e=.returned (.bool (zdi a b))∧Fr [] w w':=by
 have H1:=hid h1
 have H2:=hid h2
 clear h1 h2
 by_cases hl:a.length=b.length
 ·have HL:=hid hl
  have q1:((a.length:Int) != (b.length:Int))=false:=by simp[hl]
  have hle:b.length≤a.length:=by omega
  have hle2:a.length≤b.length:=by omega
  clear hl
  go_enter Tryz.func69,Tryz.ntmps69
  go_wp2
  clear q1
  go_loopg [5] a.length (fun g i wr=>∃(m:Nat),g=a.length - m∧i=.int .i64 m∧m≤a.length∧Ahead a b m∧Fr [] w wr)
  case atStart=>exact⟨0,rfl,rfl,Nat.zero_le _,zan _ _,Fr.refl _ _⟩
  case round=>
   obtain⟨m,rfl,rfl,hm,hA,hf⟩:=hrel
   have HA:=hid hA
   clear hA
   by_cases hlt:m < a.length
   ·obtain⟨s,hs⟩:∃s,a[m]? = some s:=⟨_,List.getElem?_eq_getElem hlt⟩
    obtain⟨t,ht⟩:∃t,b[m]? = some t:=⟨_,List.getElem?_eq_getElem (by omega)⟩
    obtain⟨g1,o1,rfl,hb1,hc1,hm1,hcell1⟩:=H1.out.at_ (by omega)
    obtain⟨g2,o2,rfl,hb2,hc2,hm2,hcell2⟩:=H2.out.at_ (by omega)
    have x1:wr.cell? ⟨g1,o1+m,none⟩=some (.string s):=hf.cell (hcell1 m _ (z15 a m s hs)) (by simp)
    have x2:wr.cell? ⟨g2,o2+m,none⟩=some (.string t):=hf.cell (hcell2 m _ (z15 b m t ht)) (by simp)
    have hlt2:m < b.length:=by omega
    by_cases e:s=t
    ·subst e
     obtain⟨q1,q2⟩:=zts s
     have N:=hid (zai HA.out hs ht)
     clear hcell1 hcell2 hs ht
     go_wp2
     go_quiet (fail)
     go_wp2
     go_roundg (a.length - (m+1))
     case measure=>omega
     case rel=>exact⟨m+1,rfl,rfl,by omega,N.out,hf.drewN _⟩
    ·obtain⟨q1,q2⟩:=zwf e
     have N:=hid (show zdi a b=false from decide_eq_false (zel hs ht e))
     clear hcell1 hcell2 hs ht e
     go_wp2
     go_quiet (fail)
     go_wp2
     go_ret
     rw[N.out]
     exact⟨rfl,hf.drewN _⟩
   ·have N:=hid (show zdi a b=true from decide_eq_true (zc5 HA.out (by omega) HL.out))
    go_wp2
    go_ret
    rw[N.out]
    exact⟨rfl,hf⟩
 ·have N:=hid (show zdi a b=false from decide_eq_false (fun e=>hl (by rw[e])))
  have q1:((a.length:Int) != (b.length:Int))=true:=by simp;omega
  clear hl
  go_enter Tryz.func69,Tryz.ntmps69
  go_wp2
  go_ret
  rw[N.out]
  exact⟨rfl,Fr.refl _ _⟩
def z99(x y:Itm):Bool:=decide (x.kind=y.kind)&&decide (x.text=y.text)&&zdi x.list y.list&&decide (x.pairs=y.pairs)&&decide (x.scores=y.scores)
theorem zof{x y:Itm}:z99 x y=true↔x=y:=by
 constructor
 ·intro h
  simp only[z99,zdi,Bool.and_eq_true,decide_eq_true_eq] at h
  cases x
  cases y
  simp_all
 ·rintro rfl
  simp[z99,zdi]
theorem zei(x:Itm):z99 x x=true:=zof.2 rfl
structure Bx2(w:World)(cs ds:List Value)(wr:World):Prop where
 b1:Whole wr w.heap.size 43 cs
 b2:Whole wr (w.heap.size+1) 43 ds
 fr:Fr [] w wr
theorem Bx2.step{w wr w1:World}{cs ds:List Value}(h:Bx2 w cs ds wr)(f:Fr [] wr w1):Bx2 w cs ds w1:=⟨h.b1.fr f (by simp),h.b2.fr f (by simp),h.fr.trans f⟩
theorem Bx2.start(w:World)(cs ds:List Value):Bx2 w cs ds ((w.alloc (.cells cs.toArray 43)).alloc (.cells ds.toArray 43)):=by
 refine⟨(Whole.new w _ _).alloc _,?_,((Fr.refl [] w).alloc _).alloc _⟩
 have:=Whole.new (w.alloc (.cells cs.toArray 43)) 43 ds
 simpa using this
theorem zb2(x y:Itm)(v u:Value)(w:World)(B:Nat)(hx:x.Small)(hy:y.Small)(hB:B≤w.heap.size)(h:z0q w B v x)(k:z0q w B u y) :
  Calls prog 19 #[v,u] w fun e w'=>e=.returned (.bool (z99 x y))∧Fr [] w w':=by
 obtain⟨A1,c1,A2,c2,A3,c3,rfl,h1,h2,h3⟩:=h
 obtain⟨D1,e1,D2,e2,D3,e3,rfl,k1,k2,k3⟩:=k
 have T:=hid (fun W (hf:Fr [] w W)=>z9z x.list y.list A1 D1 c1 e1 B W hx.list hy.list (Nat.le_trans hB hf.size) (h1.fr hf hB (by simp)) (k1.fr hf hB (by simp)))
 have S0:=hid (Bx2.start w [.int .i64 x.kind,.string x.text,.slice A1 x.list.length c1,.slice A2 x.pairs.length c2,.slice A3 x.scores.length c3] [.int .i64 y.kind,.string y.text,.slice D1 y.list.length e1,.slice D2 y.pairs.length e2,.slice D3 y.scores.length e3])
 have H2:=hid h2
 have H3:=hid h3
 have K2:=hid k2
 have K3:=hid k3
 have s2:=hx.pairs
 have s3:=hx.scores
 have t2:=hy.pairs
 have t3:=hy.scores
 have hS:z99 x y=(decide (x.kind=y.kind)&&decide (x.text=y.text)&&zdi x.list y.list&&decide (x.pairs=y.pairs)&&decide (x.scores=y.scores)):=rfl
 have HS:=hid hS
 clear hS h1 h2 h3 k1 k2 k3 hx hy
 by_cases ek:x.kind=y.kind
 ·by_cases et:x.text=y.text
  ·have qk:(x.kind != y.kind)=false:=by simp[ek]
   have qt:x.text.toList=y.text.toList:=by rw[et]
   have HEK:=hid ek
   have HET:=hid et
   clear ek et
   cases el:zdi x.list y.list
   ·have E:=hid (show z99 x y=false by rw[HS.out,el];simp)
    rw[el] at T
    clear el
    go_enter Tryz.func19,Tryz.ntmps19
    go_wp2_with fail
    refine(T.out _ S0.out.fr).mono ?_
    rintro e w1 ⟨rfl,g1⟩
    have S1:=hid (S0.out.step g1)
    go_wp2
    go_ret
    rw[E.out]
    exact⟨rfl,S1.out.fr⟩
   ·rw[el] at T
    have HEL:=hid el
    clear el
    by_cases el:x.pairs.length=y.pairs.length
    ·have q_pairs:((x.pairs.length:Int) != (y.pairs.length:Int))=false:=by simp[el]
     have HL_pairs:=hid el
     have le_pairs:x.pairs.length≤y.pairs.length:=by omega
     clear el
     by_cases el:x.scores.length=y.scores.length
     ·have q_scores:((x.scores.length:Int) != (y.scores.length:Int))=false:=by simp[el]
      have HL_scores:=hid el
      have le_scores:x.scores.length≤y.scores.length:=by omega
      clear el
      go_enter Tryz.func19,Tryz.ntmps19
      go_wp2_with fail
      refine(T.out _ S0.out.fr).mono ?_
      rintro e w1 ⟨rfl,g1⟩
      have S1:=hid (S0.out.step g1)
      obtain⟨d0,d1,d2,d3,d4⟩:=five S1.out.b1
      obtain⟨f0,f1,f2,f3,f4⟩:=five S1.out.b2
      go_wp2
      clear d0 d1 d2 d3 d4 f0 f1 f2 f3 f4 qk qt q_pairs q_scores g1
      go_loopg [5] x.pairs.length (fun g i wr=>∃(m:Nat),g=x.pairs.length - m∧i=.int .i64 m∧m≤x.pairs.length∧Ahead x.pairs y.pairs m∧Bx2 w [.int .i64 x.kind,.string x.text,.slice A1 x.list.length c1,.slice A2 x.pairs.length c2,.slice A3 x.scores.length c3] [.int .i64 y.kind,.string y.text,.slice D1 y.list.length e1,.slice D2 y.pairs.length e2,.slice D3 y.scores.length e3] wr)
      case atStart=>exact⟨0,rfl,rfl,Nat.zero_le _,zan _ _,S1.out⟩
      clear S1
      case round=>
      obtain⟨m,rfl,rfl,hm,hA,hS⟩:=hrel
      have HA:=hid hA
      have SB:=hid hS
      clear hA hS
      obtain⟨d0,d1,d2,d3,d4⟩:=five SB.out.b1
      obtain⟨f0,f1,f2,f3,f4⟩:=five SB.out.b2
      by_cases hlt:m < x.pairs.length
      ·obtain⟨s,hs⟩:∃s,x.pairs[m]? = some s:=⟨_,List.getElem?_eq_getElem hlt⟩
       obtain⟨t,ht⟩:∃t,y.pairs[m]? = some t:=⟨_,List.getElem?_eq_getElem (by omega)⟩
       obtain⟨g1,o1,eq1,hb1,hc1,hm1,hcell1⟩:=H2.out.at_ (by omega)
       obtain⟨g2,o2,eq2,hb2,hc2,hm2,hcell2⟩:=K2.out.at_ (by omega)
       have x1:wr.cell? ⟨g1,o1+2 * m,none⟩=some (.string s.1):=SB.out.fr.cell (hcell1 _ _ (z0g _ m s hs).1) (by simp)
       have y1:wr.cell? ⟨g1,o1+2 * m+1,none⟩=some (.string s.2):=SB.out.fr.cell (hcell1 _ _ (z0g _ m s hs).2) (by simp)
       have x2:wr.cell? ⟨g2,o2+2 * m,none⟩=some (.string t.1):=SB.out.fr.cell (hcell2 _ _ (z0g _ m t ht).1) (by simp)
       have y2:wr.cell? ⟨g2,o2+2 * m+1,none⟩=some (.string t.2):=SB.out.fr.cell (hcell2 _ _ (z0g _ m t ht).2) (by simp)
       rw[Nat.mul_comm 2 m] at x1 x2 y1 y2
       rw[eq1] at d3
       rw[eq2] at f3
       clear eq1 eq2
       have hlt2:m < y.pairs.length:=by omega
       by_cases e:s=t
       ·subst e
        obtain⟨q1,q2⟩:=zts s.1
        obtain⟨q3,q4⟩:=zts s.2
        have N:=hid (zai HA.out hs ht)
        clear hcell1 hcell2 hs ht
        go_wp2
        go_quiet (fail)
        go_wp2
        go_roundg (x.pairs.length - (m+1))
        case measure=>omega
        case rel=>exact⟨m+1,rfl,rfl,by omega,N.out,SB.out.step (Fr.drewN_of _ _ _)⟩
       ·have E:=hid (show z99 x y=false by rw[HS.out,decide_eq_false (zel hs ht e)];simp)
        have hor:s.1≠t.1∨(s.1=t.1∧s.2≠t.2):=by
         by_cases h:s.1=t.1
         ·exact .inr ⟨h,fun h2=>e (Prod.ext h h2)⟩
         ·exact .inl h
        clear hcell1 hcell2 hs ht e
        rcases hor with hne|⟨he,hne⟩
        ·obtain⟨q1,q2⟩:=zwf hne
         clear hne
         go_wp2
         go_quiet (fail)
         go_wp2
         go_ret
         rw[E.out]
         exact⟨rfl,(SB.out.step (Fr.drewN_of _ _ _)).fr⟩
        ·obtain⟨q1,q2⟩:=zwf hne
         have q3:(s.1.toList==t.1.toList)=true:=by rw[he];exact(zts _).1
         clear hne he
         go_wp2
         go_quiet (fail)
         go_wp2
         go_ret
         rw[E.out]
         exact⟨rfl,(SB.out.step (Fr.drewN_of _ _ _)).fr⟩
      have E_pairs:=hid (zc5 HA.out (by omega) HL_pairs.out)
      go_wp2
      clear d0 d1 d2 d3 d4 f0 f1 f2 f3 f4 hlt hm HA
      go_loopg [6] x.scores.length (fun g i wr=>∃(m:Nat),g=x.scores.length - m∧i=.int .i64 m∧m≤x.scores.length∧Ahead x.scores y.scores m∧Bx2 w [.int .i64 x.kind,.string x.text,.slice A1 x.list.length c1,.slice A2 x.pairs.length c2,.slice A3 x.scores.length c3] [.int .i64 y.kind,.string y.text,.slice D1 y.list.length e1,.slice D2 y.pairs.length e2,.slice D3 y.scores.length e3] wr)
      case atStart=>exact⟨0,rfl,rfl,Nat.zero_le _,zan _ _,SB.out⟩
      clear SB
      case round=>
      obtain⟨m,rfl,rfl,hm,hA,hS⟩:=hrel
      have HA:=hid hA
      have SB:=hid hS
      clear hA hS
      obtain⟨d0,d1,d2,d3,d4⟩:=five SB.out.b1
      obtain⟨f0,f1,f2,f3,f4⟩:=five SB.out.b2
      by_cases hlt:m < x.scores.length
      ·obtain⟨s,hs⟩:∃s,x.scores[m]? = some s:=⟨_,List.getElem?_eq_getElem hlt⟩
       obtain⟨t,ht⟩:∃t,y.scores[m]? = some t:=⟨_,List.getElem?_eq_getElem (by omega)⟩
       obtain⟨g1,o1,eq1,hb1,hc1,hm1,hcell1⟩:=H3.out.at_ (by omega)
       obtain⟨g2,o2,eq2,hb2,hc2,hm2,hcell2⟩:=K3.out.at_ (by omega)
       have x1:wr.cell? ⟨g1,o1+2 * m,none⟩=some (.int .i64 s.1):=SB.out.fr.cell (hcell1 _ _ (z0b _ m s hs).1) (by simp)
       have y1:wr.cell? ⟨g1,o1+2 * m+1,none⟩=some (.string s.2):=SB.out.fr.cell (hcell1 _ _ (z0b _ m s hs).2) (by simp)
       have x2:wr.cell? ⟨g2,o2+2 * m,none⟩=some (.int .i64 t.1):=SB.out.fr.cell (hcell2 _ _ (z0b _ m t ht).1) (by simp)
       have y2:wr.cell? ⟨g2,o2+2 * m+1,none⟩=some (.string t.2):=SB.out.fr.cell (hcell2 _ _ (z0b _ m t ht).2) (by simp)
       rw[Nat.mul_comm 2 m] at x1 x2 y1 y2
       rw[eq1] at d4
       rw[eq2] at f4
       clear eq1 eq2
       have hlt2:m < y.scores.length:=by omega
       by_cases e:s=t
       ·subst e
        obtain⟨q3,q4⟩:=zts s.2
        have N:=hid (zai HA.out hs ht)
        clear hcell1 hcell2 hs ht
        go_wp2
        go_quiet (fail)
        go_wp2
        go_roundg (x.scores.length - (m+1))
        case measure=>omega
        case rel=>exact⟨m+1,rfl,rfl,by omega,N.out,SB.out.step (Fr.drewN_of _ _ _)⟩
       ·have E:=hid (show z99 x y=false by rw[HS.out,decide_eq_false (zel hs ht e)];simp)
        have hor:s.1≠t.1∨(s.1=t.1∧s.2≠t.2):=by
         by_cases h:s.1=t.1
         ·exact .inr ⟨h,fun h2=>e (Prod.ext h h2)⟩
         ·exact .inl h
        clear hcell1 hcell2 hs ht e
        rcases hor with hne|⟨he,hne⟩
        ·have q1:(s.1==t.1)=false:=by simpa using hne
         have q2:(s.1 != t.1)=true:=by simpa using hne
         clear hne
         go_wp2
         go_quiet (fail)
         go_wp2
         go_ret
         rw[E.out]
         exact⟨rfl,(SB.out.step (Fr.drewN_of _ _ _)).fr⟩
        ·obtain⟨q1,q2⟩:=zwf hne
         have q3:(s.1==t.1)=true:=by simpa using he
         clear hne he
         go_wp2
         go_quiet (fail)
         go_wp2
         go_ret
         rw[E.out]
         exact⟨rfl,(SB.out.step (Fr.drewN_of _ _ _)).fr⟩
      have E_scores:=hid (zc5 HA.out (by omega) HL_scores.out)
      have E:=hid (show z99 x y=true by rw[HS.out,decide_eq_true HEK.out,decide_eq_true HET.out,HEL.out,decide_eq_true E_pairs.out,decide_eq_true E_scores.out];rfl)
      go_wp2
      go_ret
      rw[E.out]
      exact⟨rfl,SB.out.fr⟩
     ·have q_scores:((x.scores.length:Int) != (y.scores.length:Int))=true:=by simp;omega
      have E:=hid (show z99 x y=false by rw[HS.out,decide_eq_false (show ¬x.scores=y.scores from fun e=>el (by rw[e]))];simp)
      clear el
      go_enter Tryz.func19,Tryz.ntmps19
      go_wp2_with fail
      refine(T.out _ S0.out.fr).mono ?_
      rintro e w1 ⟨rfl,g1⟩
      have S1:=hid (S0.out.step g1)
      obtain⟨d0,d1,d2,d3,d4⟩:=five S1.out.b1
      obtain⟨f0,f1,f2,f3,f4⟩:=five S1.out.b2
      go_wp2
      go_ret
      rw[E.out]
      exact⟨rfl,S1.out.fr⟩
    ·have q_pairs:((x.pairs.length:Int) != (y.pairs.length:Int))=true:=by simp;omega
     have E:=hid (show z99 x y=false by rw[HS.out,decide_eq_false (show ¬x.pairs=y.pairs from fun e=>el (by rw[e]))];simp)
     clear el
     go_enter Tryz.func19,Tryz.ntmps19
     go_wp2_with fail
     refine(T.out _ S0.out.fr).mono ?_
     rintro e w1 ⟨rfl,g1⟩
     have S1:=hid (S0.out.step g1)
     obtain⟨d0,d1,d2,d3,d4⟩:=five S1.out.b1
     obtain⟨f0,f1,f2,f3,f4⟩:=five S1.out.b2
     go_wp2
     go_ret
     rw[E.out]
     exact⟨rfl,S1.out.fr⟩
  ·have qk:(x.kind != y.kind)=false:=by simp[ek]
   have qt:¬x.text.toList=y.text.toList:=by have:=(zwf et).1;simpa using this
   have E:=hid (show z99 x y=false by rw[HS.out,decide_eq_false et];simp)
   clear ek et
   go_enter Tryz.func19,Tryz.ntmps19
   go_wp2
   go_ret
   rw[E.out]
   exact⟨rfl,S0.out.fr⟩
 ·have qk:(x.kind != y.kind)=true:=by simpa using ek
  have E:=hid (show z99 x y=false by rw[HS.out,decide_eq_false ek];simp)
  clear ek
  go_enter Tryz.func19,Tryz.ntmps19
  go_wp2
  go_ret
  rw[E.out]
  exact⟨rfl,S0.out.fr⟩
def zsv(x:Itm)(w:World)(e:Ending)(w':World):Prop:=∃v,e=.returned v∧z0l w' w.heap.size v x∧Fr [] w w'
theorem Fr.dr{S:List Nat}{w w':World}(h:Fr S w.drew w'):Fr S w w':=⟨h.os,h.tape,h.output,h.size,h.block⟩
theorem zj5{x:Itm}(h:zuc x):x.Small:=by
 have hm:=h.many
 unfold many at hm
 have hk:=h.kind
 refine⟨by omega,by have:=h.text;omega,by omega,by omega,by omega,fun s hs=>by have:=h.texts s hs;omega,fun p hp=>by have:=h.fields p hp;omega,fun p hp=>?_⟩
 have:=h.members p hp
 have hi:=this.1
 simp only[z0m,Bool.and_eq_true,decide_eq_true_eq] at hi
 omega
end Go.Proofs.YtamgdmiopinidaaGreatDoor
