/- Contracts; no condition but each theorem's own. -/
import Derived.Test.YtmkhmejempcimaaGreatDoorSlU3
import Derived.Test.YtmkhmejempcimaaGreatDoorSlU4
import Derived.Deep.DrawnRows
import Derived.Deep.RegionLaw
import Derived.Laws.BitsAllLaws
import Derived.Laws.BitsLemmas
import Derived.Laws.Externs
import Derived.Lib.AppendStr
import Derived.Lib.Builder
import Derived.Lib.Strings
import Derived.Lib.UnsafeStr
set_option linter.unusedVariables false
set_option linter.unusedSimpArgs false
set_option maxHeartbeats 8000000
set_option maxRecDepth 100000
namespace Go.Proofs.YtmkhmejempcimaaGreatDoor
open Lib (hid)
open Go.Proofs.Tryz (prog)
open Go.RowKit
theorem z2k:(prog.info? 9).map (fun i=>(i.zero,i.size,i.bytes))=some (some (.string ⟨#[]⟩),1,16):=by kernel_rfl
theorem zej:(prog.info? 108).map (fun i=>(i.zero,i.size,i.bytes))=some (some (.agg #[.string ⟨#[]⟩,.string ⟨#[]⟩]),2,32):=by kernel_rfl
theorem zbf:(prog.info? 110).map (fun i=>(i.zero,i.size,i.bytes))=some (some (.agg #[.int .i64 0,.string ⟨#[]⟩]),2,24):=by kernel_rfl
theorem zd4(l:List ByteArray)(s:ByteArray):z04 (l++[s])=z04 l++[.string s]:=by simp[z04]
theorem zdj(l:List (ByteArray×ByteArray))(p:ByteArray×ByteArray):z0t (l++[p])=z0t l++[.string p.1,.string p.2]:=by simp[z0t]
theorem zbh(l:List (Int×ByteArray))(p:Int×ByteArray):z0h (l++[p])=z0h l++[.int .i64 p.1,.string p.2]:=by simp[z0h]
def z0l(w:World)(base:Nat)(v:Value)(x:Itm):Prop:=
 ∃v1 v2 v3,v=.agg #[.int .i64 x.kind,.string x.text,v1,v2,v3]∧w.ownsRow base 9 1 v1 x.list.length (z04 x.list)∧w.ownsRow base 108 2 v2 x.pairs.length (z0t x.pairs)∧w.ownsRow base 110 2 v3 x.scores.length (z0h x.scores)
theorem z3m{w:World}{B size n:Nat}{v:Value}{xs:List Value}(h:Sl w B size v n xs):∃A c,v=.slice A n c:=by
 obtain⟨A,c,e,_⟩:=h;exact⟨A,c,e⟩
theorem z0l.item{w:World}{base:Nat}{v:Value}{x:Itm}(h:z0l w base v x):z1m w w.heap.size v x:=by
 obtain⟨v1,v2,v3,rfl,o1,o2,o3⟩:=h;have s1:=z0o o1;have s2:=z0o o2;have s3:=z0o o3;obtain⟨A1,c1,rfl⟩:=z3m s1;obtain⟨A2,c2,rfl⟩:=z3m s2;obtain⟨A3,c3,rfl⟩:=z3m s3;exact⟨A1,c1,A2,c2,A3,c3,rfl,s1,s2,s3⟩
theorem z09{w:World}{base base' e size n:Nat}{v:Value}{xs:List Value}(h:w.ownsRow base e size v n xs)(hb:base'≤base):w.ownsRow base' e size v n xs:=by
 refine⟨h.1,?_⟩;rcases h.2 with hz|⟨g,cap,cur,rfl,hbg,rest⟩
 ·exact .inl hz
 ·exact .inr ⟨g,cap,cur,rfl,by omega,rest⟩
theorem z0l.nothing(w:World)(base:Nat):z0l w base (.agg #[.int .i64 0,.string ⟨#[]⟩,.slice none 0 0,.slice none 0 0,.slice none 0 0]) (z2l 0):=
 ⟨_,_,_,rfl,World.ownsRow_nil _ _ _ _,⟨rfl,.inl ⟨rfl,rfl⟩⟩,⟨rfl,.inl ⟨rfl,rfl⟩⟩⟩
theorem z23{w:World}{g t:Nat}{a b c d e:Value}(h:Whole w g t [a,b,c,d,e]):
  w.frozen? ⟨g,0,none⟩=false∧w.frozen? ⟨g,1,none⟩=false∧w.frozen? ⟨g,2,none⟩=false∧w.frozen? ⟨g,3,none⟩=false∧w.frozen? ⟨g,4,none⟩=false:=
 ⟨h.frozen 0,h.frozen 1,h.frozen 2,h.frozen 3,h.frozen 4⟩
theorem z3v(n:Nat)(hn:n < 256):(z2l n).Small:=
 ⟨⟨by show -9223372036854775808≤(n:Int);omega,by show(n:Int)≤9223372036854775807;omega⟩,by show(0:Nat)≤_;omega,by show(0:Nat)≤_;omega,by show(0:Nat)≤_;omega,by show(0:Nat)≤_;omega,fun s hs=>absurd hs (by simp[z2l]),fun s hs=>absurd hs (by simp[z2l]),fun s hs=>absurd hs (by simp[z2l])⟩
def set5(w:World)(o:Nat)(a b c d e:Value):World:=((((w.setCell ⟨o,0,none⟩ a).setCell ⟨o,1,none⟩ b).setCell ⟨o,2,none⟩ c).setCell ⟨o,3,none⟩ d).setCell ⟨o,4,none⟩ e
theorem za2{w:World}{base e0 size n:Nat}{v:Value}{xs:List Value}{o T:Nat}{cs:List Value}(h:w.ownsRow base e0 size v n xs)(hw:Whole w o T cs)(hT:T≠e0)(a b c d e:Value):(set5 w o a b c d e).ownsRow base e0 size v n xs:=by
 have hn:=z0g h hw hT;exact z0c _ (z0c _ (z0c _ (z0c _ (z0c _ h hn) hn) hn) hn) hn
theorem z0l.set5{w:World}{base:Nat}{v:Value}{x:Itm}{o:Nat}{cs:List Value}(h:z0l w base v x)(hw:Whole w o 46 cs)(a b c d e:Value):z0l (set5 w o a b c d e) base v x:=by
 obtain⟨v1,v2,v3,rfl,o1,o2,o3⟩:=h;exact⟨v1,v2,v3,rfl,za2 o1 hw (by decide) _ _ _ _ _,za2 o2 hw (by decide) _ _ _ _ _,za2 o3 hw (by decide) _ _ _ _ _⟩
theorem z0l.base{w:World}{base base':Nat}{v:Value}{x:Itm}(h:z0l w base v x)(hb:base'≤base):z0l w base' v x:=by
 obtain⟨v1,v2,v3,rfl,o1,o2,o3⟩:=h;exact⟨v1,v2,v3,rfl,z09 o1 hb,z09 o2 hb,z09 o3 hb⟩
structure z8m(x:Itm):Prop where
 kind:1≤x.kind∧x.kind≤5
 bare:z4o x=true
 many:many x≤24
 text:x.text.size≤60
 texts:∀s∈x.list,s.size≤60
 fields:∀p∈x.pairs,p.1.size≤60∧p.2.size≤60
 members:∀p∈x.scores,z17 p.1=true∧p.2.size≤60
theorem za8{l:List (Int×ByteArray)}(h:z16 l=0):(∀p∈l,z17 p.1=true)∧(l.map (·.2)).Nodup∧rises ltC l=true:=by
 unfold z16 at h;by_cases h1:(l.any fun p=>!z17 p.1)=true
 ·rw[if_pos h1] at h;cases h
 ·rw[if_neg h1] at h;by_cases h2:¬(l.map (·.2)).Nodup
  ·rw[if_pos h2] at h;cases h
  ·rw[if_neg h2] at h;by_cases h3:rises ltC l=true
   ·refine⟨fun p hp=>?_,Decidable.not_not.1 h2,h3⟩
    have h1':(l.any fun p=>!z17 p.1)=false:=by
     cases hc:(l.any fun p=>!z17 p.1) with
     | false=>rfl
     | true=>exact absurd hc h1
    have:=List.any_eq_false.1 h1' p hp;simpa using this
   ·rw[if_neg h3] at h;cases h
theorem z2c{x:Itm}(h:z08 x=0):z8m x:=by
 unfold z08 at h;by_cases h1:¬(1≤x.kind∧x.kind≤5)
 ·rw[if_pos h1] at h;cases h
 rw[if_neg h1] at h;by_cases h2:z4o x=false
 ·rw[if_pos h2] at h;cases h
 rw[if_neg h2] at h;have hb:z4o x=true:=by simpa using h2
 have hform:=hb;simp only[z4o,Bool.and_eq_true,Bool.or_eq_true,beq_iff_eq] at hform;by_cases h3:x.kind=1
 ·rw[if_pos h3] at h;by_cases h4:60 < x.text.size
  ·rw[if_pos h4] at h;cases h
  ·have l1:x.list.length=0:=by omega
   have l2:x.pairs.length=0:=by omega
   have l3:x.scores.length=0:=by omega
   refine⟨Decidable.not_not.1 h1,hb,by unfold Go.Proofs.YtmkhmejempcimaaGreatDoor.many;omega,by omega,?_,?_,?_⟩
   ·rw[List.eq_nil_of_length_eq_zero l1];intro s hs;cases hs
   ·rw[List.eq_nil_of_length_eq_zero l2];intro s hs;cases hs
   ·rw[List.eq_nil_of_length_eq_zero l3];intro s hs;cases hs
 rw[if_neg h3] at h;by_cases h4:Go.Proofs.YtmkhmejempcimaaGreatDoor.many x=0
 ·rw[if_pos h4] at h;cases h
 rw[if_neg h4] at h;by_cases h5:24 < Go.Proofs.YtmkhmejempcimaaGreatDoor.many x∨zai x=true
 ·rw[if_pos h5] at h;cases h
 rw[if_neg h5] at h;by_cases h6:(x.kind=3∧rises ltS x.list=false)∨(x.kind=4∧rises ltP x.pairs=false)
 ·rw[if_pos h6] at h;cases h
 rw[if_neg h6] at h;have hs:=za8 h;have hl:zai x=false:=by simpa using fun e=>h5 (.inr e)
 unfold zai at hl;simp only[Bool.or_eq_false_iff] at hl;refine⟨Decidable.not_not.1 h1,hb,by omega,by omega,?_,?_,?_⟩
 ·intro s hs;have:=List.any_eq_false.1 hl.1.1 s hs;simp[z2r] at this;exact this
 ·intro p hp;have:=List.any_eq_false.1 hl.1.2 p hp;simp[z5p] at this;exact this
 ·intro p hp;have:=List.any_eq_false.1 hl.2 p hp;simp[z6f] at this;exact⟨hs.1 p hp,this⟩
def Ahead{α:Type}(a b:List α)(m:Nat):Prop:=∀j,j < m→a[j]? = b[j]?
theorem z33{α:Type}(a b:List α):Ahead a b 0:=fun j hj=>absurd hj (Nat.not_lt_zero _)
theorem z34{α:Type}{a b:List α}{m:Nat}{s:α}(h:Ahead a b m)(ha:a[m]? = some s)(hb:b[m]? = some s):Ahead a b (m+1):=by
 intro j hj;rcases Nat.lt_or_ge j m with h1|h1
 ·exact h j h1
 ·have e:j=m:=by omega
  rw[e,ha,hb]
theorem z3y{α:Type}{a b:List α}{m:Nat}(h:Ahead a b m)(ha:a.length≤m)(hl:a.length=b.length):a=b:=by
 apply List.ext_getElem?;intro j;rcases Nat.lt_or_ge j m with h1|h1
 ·exact h j h1
 ·rw[List.getElem?_eq_none (by omega),List.getElem?_eq_none (by omega)]
theorem z57{α:Type}{a b:List α}{m:Nat}{s t:α}(ha:a[m]? = some s)(hb:b[m]? = some t)(hne:s≠t):a≠b:=by
 rintro rfl;rw[ha] at hb;injection hb with hb
 exact hne hb
def z8f(a b:List ByteArray):Bool:=decide (a=b)
theorem zk1{s t:ByteArray}(h:s≠t):(s.toList==t.toList)=false∧(s.toList != t.toList)=true:=by
 have:=eqB s t;rw[decide_eq_false h] at this;exact⟨this,by rw[bne,this];rfl⟩
theorem zf7(s:ByteArray):(s.toList==s.toList)=true∧(s.toList != s.toList)=false:=by
 have:=eqB s s;rw[decide_eq_true rfl] at this;exact⟨this,by rw[bne,this];rfl⟩
theorem z68(a b:List ByteArray)(A1 A2:Option Addr)(c1 c2 B:Nat)(w:World)(la:a.length≤281474976710656)(lb:b.length≤281474976710656)(hB:B≤w.heap.size)
  (h1:Sl w B 1 (.slice A1 a.length c1) a.length (z04 a)) (h2:Sl w B 1 (.slice A2 b.length c2) b.length (z04 b)):
  Calls prog 59 #[.slice A1 a.length c1,.slice A2 b.length c2] w fun e w'=>e=.returned (.bool (z8f a b))∧Fr [] w w':=by
 have H1:=hid h1;have H2:=hid h2;clear h1 h2;by_cases hl:a.length=b.length
 ·have HL:=hid hl;have q1:((a.length:Int) != (b.length:Int))=false:=by simp[hl]
  have hle:b.length≤a.length:=by omega
  have hle2:a.length≤b.length:=by omega
  clear hl;go_enter Tryz.func59,Tryz.ntmps59;go_wp2;clear q1;go_loopg [5] a.length (fun g i wr=>∃(m:Nat),g=a.length - m∧i=.int .i64 m∧m≤a.length∧Ahead a b m∧Fr [] w wr)
  case atStart=>exact⟨0,rfl,rfl,Nat.zero_le _,z33 _ _,Fr.refl _ _⟩
  case round=>
   obtain⟨m,rfl,rfl,hm,hA,hf⟩:=hrel;have HA:=hid hA;clear hA;by_cases hlt:m < a.length
   ·obtain⟨s,hs⟩:∃s,a[m]? = some s:=⟨_,List.getElem?_eq_getElem hlt⟩;obtain⟨t,ht⟩:∃t,b[m]? = some t:=⟨_,List.getElem?_eq_getElem (by omega)⟩;obtain⟨g1,o1,rfl,hb1,hc1,hm1,hcell1⟩:=H1.out.at_ (by omega);obtain⟨g2,o2,rfl,hb2,hc2,hm2,hcell2⟩:=H2.out.at_ (by omega);have x1:wr.cell? ⟨g1,o1+m,none⟩=some (.string s):=hf.cell (hcell1 m _ (z0x a m s hs)) (by simp);have x2:wr.cell? ⟨g2,o2+m,none⟩=some (.string t):=hf.cell (hcell2 m _ (z0x b m t ht)) (by simp);have hlt2:m < b.length:=by omega
    by_cases e:s=t
    ·subst e;obtain⟨q1,q2⟩:=zf7 s;have N:=hid (z34 HA.out hs ht);clear hcell1 hcell2 hs ht;go_wp2;go_quiet (fail);go_wp2;go_roundg (a.length - (m+1))
     case measure=>omega
     case rel=>exact⟨m+1,rfl,rfl,by omega,N.out,hf.drewN _⟩
    ·obtain⟨q1,q2⟩:=zk1 e;have N:=hid (show z8f a b=false from decide_eq_false (z57 hs ht e));clear hcell1 hcell2 hs ht e;go_wp2;go_quiet (fail);go_wp2;go_ret;rw[N.out];exact⟨rfl,hf.drewN _⟩
   ·have N:=hid (show z8f a b=true from decide_eq_true (z3y HA.out (by omega) HL.out));go_wp2;go_ret;rw[N.out];exact⟨rfl,hf⟩
 ·have N:=hid (show z8f a b=false from decide_eq_false (fun e=>hl (by rw[e])));have q1:((a.length:Int) != (b.length:Int))=true:=by simp;omega
  clear hl;go_enter Tryz.func59,Tryz.ntmps59;go_wp2;go_ret;rw[N.out];exact⟨rfl,Fr.refl _ _⟩
def z40(x y:Itm):Bool:=decide (x.kind=y.kind)&&decide (x.text=y.text)&&z8f x.list y.list&&decide (x.pairs=y.pairs)&&decide (x.scores=y.scores)
theorem zc0{x y:Itm}:z40 x y=true↔x=y:=by
 constructor
 ·intro h;simp only[z40,z8f,Bool.and_eq_true,decide_eq_true_eq] at h;cases x;cases y
  simp_all
 ·rintro rfl;simp[z40,z8f]
theorem z9g(x:Itm):z40 x x=true:=zc0.2 rfl
structure Bx2(w:World)(cs ds:List Value)(wr:World):Prop where
 b1:Whole wr w.heap.size 46 cs
 b2:Whole wr (w.heap.size+1) 46 ds
 fr:Fr [] w wr
theorem Bx2.step{w wr w1:World}{cs ds:List Value}(h:Bx2 w cs ds wr)(f:Fr [] wr w1):Bx2 w cs ds w1:=⟨h.b1.fr f (by simp),h.b2.fr f (by simp),h.fr.trans f⟩
theorem Bx2.start(w:World)(cs ds:List Value):Bx2 w cs ds ((w.alloc (.cells cs.toArray 46)).alloc (.cells ds.toArray 46)):=by
 refine⟨(Whole.new w _ _).alloc _,?_,((Fr.refl [] w).alloc _).alloc _⟩;have:=Whole.new (w.alloc (.cells cs.toArray 46)) 46 ds;simpa using this
theorem z78(x y:Itm)(v u:Value)(w:World)(B:Nat)(hx:x.Small)(hy:y.Small)(hB:B≤w.heap.size)(h:z1m w B v x)(k:z1m w B u y):
  Calls prog 31 #[v,u] w fun e w'=>e=.returned (.bool (z40 x y))∧Fr [] w w':=by
 obtain⟨A1,c1,A2,c2,A3,c3,rfl,h1,h2,h3⟩:=h;obtain⟨D1,e1,D2,e2,D3,e3,rfl,k1,k2,k3⟩:=k;have T:=hid (fun W (hf:Fr [] w W)=>z68 x.list y.list A1 D1 c1 e1 B W hx.list hy.list (Nat.le_trans hB hf.size) (h1.fr hf hB (by simp)) (k1.fr hf hB (by simp)));have S0:=hid (Bx2.start w [.int .i64 x.kind,.string x.text,.slice A1 x.list.length c1,.slice A2 x.pairs.length c2,.slice A3 x.scores.length c3] [.int .i64 y.kind,.string y.text,.slice D1 y.list.length e1,.slice D2 y.pairs.length e2,.slice D3 y.scores.length e3]);have H2:=hid h2;have H3:=hid h3;have K2:=hid k2;have K3:=hid k3;have s2:=hx.pairs;have s3:=hx.scores;have t2:=hy.pairs;have t3:=hy.scores;have hS:z40 x y=(decide (x.kind=y.kind)&&decide (x.text=y.text)&&z8f x.list y.list&&decide (x.pairs=y.pairs)&&decide (x.scores=y.scores)):=rfl;have HS:=hid hS;clear hS h1 h2 h3 k1 k2 k3 hx hy;by_cases ek:x.kind=y.kind
 ·by_cases et:x.text=y.text
  ·have qk:(x.kind != y.kind)=false:=by simp[ek]
   have qt:x.text.toList=y.text.toList:=by rw[et]
   have HEK:=hid ek;have HET:=hid et;clear ek et;cases el:z8f x.list y.list
   ·have E:=hid (show z40 x y=false by rw[HS.out,el];simp);rw[el] at T;clear el;go_enter Tryz.func31,Tryz.ntmps31;go_wp2_with fail;refine(T.out _ S0.out.fr).mono ?_;rintro e w1 ⟨rfl,g1⟩;have S1:=hid (S0.out.step g1);go_wp2;go_ret;rw[E.out];exact⟨rfl,S1.out.fr⟩
   ·rw[el] at T;have HEL:=hid el;clear el;by_cases el:x.pairs.length=y.pairs.length
    ·have q_pairs:((x.pairs.length:Int) != (y.pairs.length:Int))=false:=by simp[el]
     have HL_pairs:=hid el;have le_pairs:x.pairs.length≤y.pairs.length:=by omega
     clear el;by_cases el:x.scores.length=y.scores.length
     ·have q_scores:((x.scores.length:Int) != (y.scores.length:Int))=false:=by simp[el]
      have HL_scores:=hid el;have le_scores:x.scores.length≤y.scores.length:=by omega
      clear el;go_enter Tryz.func31,Tryz.ntmps31;go_wp2_with fail;refine(T.out _ S0.out.fr).mono ?_;rintro e w1 ⟨rfl,g1⟩;have S1:=hid (S0.out.step g1);obtain⟨d0,d1,d2,d3,d4⟩:=five S1.out.b1;obtain⟨f0,f1,f2,f3,f4⟩:=five S1.out.b2;go_wp2;clear d0 d1 d2 d3 d4 f0 f1 f2 f3 f4 qk qt q_pairs q_scores g1;go_loopg [5] x.pairs.length (fun g i wr=>∃(m:Nat),g=x.pairs.length - m∧i=.int .i64 m∧m≤x.pairs.length∧Ahead x.pairs y.pairs m∧Bx2 w [.int .i64 x.kind,.string x.text,.slice A1 x.list.length c1,.slice A2 x.pairs.length c2,.slice A3 x.scores.length c3] [.int .i64 y.kind,.string y.text,.slice D1 y.list.length e1,.slice D2 y.pairs.length e2,.slice D3 y.scores.length e3] wr)
      case atStart=>exact⟨0,rfl,rfl,Nat.zero_le _,z33 _ _,S1.out⟩
      clear S1
      case round=>
      obtain⟨m,rfl,rfl,hm,hA,hS⟩:=hrel;have HA:=hid hA;have SB:=hid hS;clear hA hS;obtain⟨d0,d1,d2,d3,d4⟩:=five SB.out.b1;obtain⟨f0,f1,f2,f3,f4⟩:=five SB.out.b2;by_cases hlt:m < x.pairs.length
      ·obtain⟨s,hs⟩:∃s,x.pairs[m]? = some s:=⟨_,List.getElem?_eq_getElem hlt⟩;obtain⟨t,ht⟩:∃t,y.pairs[m]? = some t:=⟨_,List.getElem?_eq_getElem (by omega)⟩;obtain⟨g1,o1,eq1,hb1,hc1,hm1,hcell1⟩:=H2.out.at_ (by omega);obtain⟨g2,o2,eq2,hb2,hc2,hm2,hcell2⟩:=K2.out.at_ (by omega);have x1:wr.cell? ⟨g1,o1+2 * m,none⟩=some (.string s.1):=SB.out.fr.cell (hcell1 _ _ (z0j _ m s hs).1) (by simp);have y1:wr.cell? ⟨g1,o1+2 * m+1,none⟩=some (.string s.2):=SB.out.fr.cell (hcell1 _ _ (z0j _ m s hs).2) (by simp);have x2:wr.cell? ⟨g2,o2+2 * m,none⟩=some (.string t.1):=SB.out.fr.cell (hcell2 _ _ (z0j _ m t ht).1) (by simp);have y2:wr.cell? ⟨g2,o2+2 * m+1,none⟩=some (.string t.2):=SB.out.fr.cell (hcell2 _ _ (z0j _ m t ht).2) (by simp);rw[Nat.mul_comm 2 m] at x1 x2 y1 y2;rw[eq1] at d3;rw[eq2] at f3;clear eq1 eq2;have hlt2:m < y.pairs.length:=by omega
       by_cases e:s=t
       ·subst e;obtain⟨q1,q2⟩:=zf7 s.1;obtain⟨q3,q4⟩:=zf7 s.2;have N:=hid (z34 HA.out hs ht);clear hcell1 hcell2 hs ht;go_wp2;go_quiet (fail);go_wp2;go_roundg (x.pairs.length - (m+1))
        case measure=>omega
        case rel=>exact⟨m+1,rfl,rfl,by omega,N.out,SB.out.step (Fr.drewN_of _ _ _)⟩
       ·have E:=hid (show z40 x y=false by rw[HS.out,decide_eq_false (z57 hs ht e)];simp)
        have hor:s.1≠t.1∨(s.1=t.1∧s.2≠t.2):=by
         by_cases h:s.1=t.1
         ·exact .inr ⟨h,fun h2=>e (Prod.ext h h2)⟩
         ·exact .inl h
        clear hcell1 hcell2 hs ht e;rcases hor with hne|⟨he,hne⟩
        ·obtain⟨q1,q2⟩:=zk1 hne;clear hne;go_wp2;go_quiet (fail);go_wp2;go_ret;rw[E.out];exact⟨rfl,(SB.out.step (Fr.drewN_of _ _ _)).fr⟩
        ·obtain⟨q1,q2⟩:=zk1 hne;have q3:(s.1.toList==t.1.toList)=true:=by rw[he];exact(zf7 _).1
         clear hne he;go_wp2;go_quiet (fail);go_wp2;go_ret;rw[E.out];exact⟨rfl,(SB.out.step (Fr.drewN_of _ _ _)).fr⟩
      have E_pairs:=hid (z3y HA.out (by omega) HL_pairs.out);go_wp2;clear d0 d1 d2 d3 d4 f0 f1 f2 f3 f4 hlt hm HA;go_loopg [6] x.scores.length (fun g i wr=>∃(m:Nat),g=x.scores.length - m∧i=.int .i64 m∧m≤x.scores.length∧Ahead x.scores y.scores m∧Bx2 w [.int .i64 x.kind,.string x.text,.slice A1 x.list.length c1,.slice A2 x.pairs.length c2,.slice A3 x.scores.length c3] [.int .i64 y.kind,.string y.text,.slice D1 y.list.length e1,.slice D2 y.pairs.length e2,.slice D3 y.scores.length e3] wr)
      case atStart=>exact⟨0,rfl,rfl,Nat.zero_le _,z33 _ _,SB.out⟩
      clear SB
      case round=>
      obtain⟨m,rfl,rfl,hm,hA,hS⟩:=hrel;have HA:=hid hA;have SB:=hid hS;clear hA hS;obtain⟨d0,d1,d2,d3,d4⟩:=five SB.out.b1;obtain⟨f0,f1,f2,f3,f4⟩:=five SB.out.b2;by_cases hlt:m < x.scores.length
      ·obtain⟨s,hs⟩:∃s,x.scores[m]? = some s:=⟨_,List.getElem?_eq_getElem hlt⟩;obtain⟨t,ht⟩:∃t,y.scores[m]? = some t:=⟨_,List.getElem?_eq_getElem (by omega)⟩;obtain⟨g1,o1,eq1,hb1,hc1,hm1,hcell1⟩:=H3.out.at_ (by omega);obtain⟨g2,o2,eq2,hb2,hc2,hm2,hcell2⟩:=K3.out.at_ (by omega);have x1:wr.cell? ⟨g1,o1+2 * m,none⟩=some (.int .i64 s.1):=SB.out.fr.cell (hcell1 _ _ (z0f _ m s hs).1) (by simp);have y1:wr.cell? ⟨g1,o1+2 * m+1,none⟩=some (.string s.2):=SB.out.fr.cell (hcell1 _ _ (z0f _ m s hs).2) (by simp);have x2:wr.cell? ⟨g2,o2+2 * m,none⟩=some (.int .i64 t.1):=SB.out.fr.cell (hcell2 _ _ (z0f _ m t ht).1) (by simp);have y2:wr.cell? ⟨g2,o2+2 * m+1,none⟩=some (.string t.2):=SB.out.fr.cell (hcell2 _ _ (z0f _ m t ht).2) (by simp);rw[Nat.mul_comm 2 m] at x1 x2 y1 y2;rw[eq1] at d4;rw[eq2] at f4;clear eq1 eq2;have hlt2:m < y.scores.length:=by omega
       by_cases e:s=t
       ·subst e;obtain⟨q3,q4⟩:=zf7 s.2;have N:=hid (z34 HA.out hs ht);clear hcell1 hcell2 hs ht;go_wp2;go_quiet (fail);go_wp2;go_roundg (x.scores.length - (m+1))
        case measure=>omega
        case rel=>exact⟨m+1,rfl,rfl,by omega,N.out,SB.out.step (Fr.drewN_of _ _ _)⟩
       ·have E:=hid (show z40 x y=false by rw[HS.out,decide_eq_false (z57 hs ht e)];simp)
        have hor:s.1≠t.1∨(s.1=t.1∧s.2≠t.2):=by
         by_cases h:s.1=t.1
         ·exact .inr ⟨h,fun h2=>e (Prod.ext h h2)⟩
         ·exact .inl h
        clear hcell1 hcell2 hs ht e;rcases hor with hne|⟨he,hne⟩
        ·have q1:(s.1==t.1)=false:=by simpa using hne
         have q2:(s.1 != t.1)=true:=by simpa using hne
         clear hne;go_wp2;go_quiet (fail);go_wp2;go_ret;rw[E.out];exact⟨rfl,(SB.out.step (Fr.drewN_of _ _ _)).fr⟩
        ·obtain⟨q1,q2⟩:=zk1 hne;have q3:(s.1==t.1)=true:=by simpa using he
         clear hne he;go_wp2;go_quiet (fail);go_wp2;go_ret;rw[E.out];exact⟨rfl,(SB.out.step (Fr.drewN_of _ _ _)).fr⟩
      have E_scores:=hid (z3y HA.out (by omega) HL_scores.out);have E:=hid (show z40 x y=true by rw[HS.out,decide_eq_true HEK.out,decide_eq_true HET.out,HEL.out,decide_eq_true E_pairs.out,decide_eq_true E_scores.out];rfl);go_wp2;go_ret;rw[E.out];exact⟨rfl,SB.out.fr⟩
     ·have q_scores:((x.scores.length:Int) != (y.scores.length:Int))=true:=by simp;omega
      have E:=hid (show z40 x y=false by rw[HS.out,decide_eq_false (show ¬x.scores=y.scores from fun e=>el (by rw[e]))];simp);clear el;go_enter Tryz.func31,Tryz.ntmps31;go_wp2_with fail;refine(T.out _ S0.out.fr).mono ?_;rintro e w1 ⟨rfl,g1⟩;have S1:=hid (S0.out.step g1);obtain⟨d0,d1,d2,d3,d4⟩:=five S1.out.b1;obtain⟨f0,f1,f2,f3,f4⟩:=five S1.out.b2;go_wp2;go_ret;rw[E.out];exact⟨rfl,S1.out.fr⟩
    ·have q_pairs:((x.pairs.length:Int) != (y.pairs.length:Int))=true:=by simp;omega
     have E:=hid (show z40 x y=false by rw[HS.out,decide_eq_false (show ¬x.pairs=y.pairs from fun e=>el (by rw[e]))];simp);clear el;go_enter Tryz.func31,Tryz.ntmps31;go_wp2_with fail;refine(T.out _ S0.out.fr).mono ?_;rintro e w1 ⟨rfl,g1⟩;have S1:=hid (S0.out.step g1);obtain⟨d0,d1,d2,d3,d4⟩:=five S1.out.b1;obtain⟨f0,f1,f2,f3,f4⟩:=five S1.out.b2;go_wp2;go_ret;rw[E.out];exact⟨rfl,S1.out.fr⟩
  ·have qk:(x.kind != y.kind)=false:=by simp[ek]
   have qt:¬x.text.toList=y.text.toList:=by have:=(zk1 et).1;simpa using this
   have E:=hid (show z40 x y=false by rw[HS.out,decide_eq_false et];simp);clear ek et;go_enter Tryz.func31,Tryz.ntmps31;go_wp2;go_ret;rw[E.out];exact⟨rfl,S0.out.fr⟩
 ·have qk:(x.kind != y.kind)=true:=by simpa using ek
  have E:=hid (show z40 x y=false by rw[HS.out,decide_eq_false ek];simp);clear ek;go_enter Tryz.func31,Tryz.ntmps31;go_wp2;go_ret;rw[E.out];exact⟨rfl,S0.out.fr⟩
def zk4(x:Itm)(w:World)(e:Ending)(w':World):Prop:=∃v,e=.returned v∧z0l w' w.heap.size v x∧Fr [] w w'
theorem Fr.dr{S:List Nat}{w w':World}(h:Fr S w.drew w'):Fr S w w':=⟨h.os,h.tape,h.output,h.size,h.block⟩
theorem z2j{x:Itm}(h:z8m x):x.Small:=by
 have hm:=h.many;unfold many at hm;have hk:=h.kind;refine⟨by omega,by have:=h.text;omega,by omega,by omega,by omega,fun s hs=>by have:=h.texts s hs;omega,fun p hp=>by have:=h.fields p hp;omega,fun p hp=>?_⟩;have:=h.members p hp;have hi:=this.1;simp only[z17,Bool.and_eq_true,decide_eq_true_eq] at hi;omega
attribute [local go_sem ↓] Go.wp_at_zero Go.wp_at_succ
section
variable {P:Program}
theorem z54(w:World)(dT sT ty elem:TypeId)(i:TypeInfo)(k b o dLen dCap:Nat)(a:Addr)(sLen sCap m:Nat)(cs:List Value)
  (hu:P.underlying dT=some (.slice elem)) (hi:P.info? elem=some i) (hs:i.size=k) (hm:Nat.min sLen dLen=m) (hn:cs.length=m * k)
  (hsrc:∀j v,cs[j]? = some v→w.cell? (a.add j)=some v) (hc:∀j,j < cs.length→(w.cell? ⟨b,o+j,none⟩).isSome=true∧w.frozen? ⟨b,o+j,none⟩=false) (h1:∀v∈cs,v.oneCell'=true):
  (Builtin.copy_ #[dT,sT] ty #[.slice (some ⟨b,o,none⟩) dLen dCap,.slice (some a) sLen sCap]).run P w=.ok (goInt m) (w.setCells b o cs):=by
 have hl:=run_loadCells_list (P:=P) w a cs hsrc;have hst:=run_storeCells_cells (P:=P) b o cs 0 w (by simpa using fun j hj=>(hc j hj).1) (by simpa using fun j hj=>(hc j hj).2) h1;rw[hn] at hl;simp[Builtin.copy_,run_underlying hu,Builtin.lenOf,Builtin.firstCells,sizeOf,typeInfo,hi,hs,hm,hl,hst]
end
section
variable {w:World} {g base e k n cap i:Nat} {xs vs:List Value}
def z2d(xs vs:List Value)(o:Nat):List Value:=xs.take o++vs++xs.drop o
theorem znp(h:w.ownsRow base e k (.slice (some ⟨g,0,none⟩) n cap) n xs)(hi:i≤n)(hr:n+1≤cap)(hv:vs.length=k):
  ∃cur0 cur,Whole w g e cur0∧cur0.length=cap * k∧Whole (w.setCells g ((i+1) * k) (xs.drop (i * k))) g e cur∧cur.length=cap * k ∧
   ((w.setCells g ((i+1) * k) (xs.drop (i * k))).setCells g (i * k) vs).ownsRow base e k (.slice (some ⟨g,0,none⟩) (n+1) cap) (n+1) (z2d xs vs (i * k)):=by
 obtain⟨cur,hw,hl,ht,hb,hn,hm,hxl⟩:=z1i h;have hik:i * k≤n * k:=Nat.mul_le_mul_right _ hi;have e1:(i+1) * k=i * k+k:=Nat.succ_mul i k;have e2:(n+1) * k=n * k+k:=Nat.succ_mul n k;have b1:(n+1) * k≤cap * k:=Nat.mul_le_mul_right _ hr;have hdl:(xs.drop (i * k)).length=n * k - i * k:=by rw[List.length_drop,hxl]
 have W1:=z0y (xs.drop (i * k)) ((i+1) * k) w cur hw (by rw[hdl,hl,e1];omega)
 have l1:(cur.take ((i+1) * k)++xs.drop (i * k)++cur.drop ((i+1) * k+(xs.drop (i * k)).length)).length=cap * k:=by
  simp only[List.length_append,List.length_take,List.length_drop,hl] at hdl ⊢;omega
 refine⟨cur,_,hw,hl,W1,l1,?_⟩;have W2:=z0y vs (i * k) _ _ W1 (by rw[l1,hv];omega)
 have l2:∀c1:List Value,c1.length=cap * k→(c1.take (i * k)++vs++c1.drop (i * k+vs.length)).length=cap * k:=by
  intro c1 hc1;simp only[List.length_append,List.length_take,List.length_drop,hv,hc1];omega
 have:=z1x (cap:=cap) (k:=k) (n:=n+1) (base:=base) W2 (l2 _ l1) hb hr hm;have t1:(cur.take ((i+1) * k)).length=(i+1) * k:=by rw[List.length_take,hl];omega
 have e3:(cur.take ((i+1) * k)++xs.drop (i * k)++cur.drop ((i+1) * k+(xs.drop (i * k)).length)).take (i * k)=xs.take (i * k):=by
  rw[List.append_assoc,List.take_append_of_le_length (by omega),List.take_take,Nat.min_eq_left (by omega),←ht,List.take_take,Nat.min_eq_left (by omega)]
 have e4:(cur.take ((i+1) * k)++xs.drop (i * k)++cur.drop ((i+1) * k+(xs.drop (i * k)).length)).drop (i * k+vs.length)=xs.drop (i * k)++cur.drop ((i+1) * k+(xs.drop (i * k)).length):=by
  rw[hv,←e1,List.append_assoc,List.drop_append_of_le_length (by omega),List.drop_of_length_le (by omega),List.nil_append]
 have e5:((cur.take ((i+1) * k)++xs.drop (i * k)++cur.drop ((i+1) * k+(xs.drop (i * k)).length)).take (i * k)++vs++(cur.take ((i+1) * k)++xs.drop (i * k)++cur.drop ((i+1) * k+(xs.drop (i * k)).length)).drop (i * k+vs.length)).take ((n+1) * k)=z2d xs vs (i * k):=by
  rw[e3,e4,←List.append_assoc];unfold z2d
  have hlen:(xs.take (i * k)++vs++xs.drop (i * k)).length=(n+1) * k:=by
   simp only[List.length_append,List.length_take,List.length_drop,hxl,hv];omega
  rw[List.take_append_of_le_length (by omega),List.take_of_length_le (by omega)]
 rw[e5] at this;exact this
theorem znh{G:Nat}{zs:List Value}(hx:xs.length=n * k)(hi:i≤n)(hv:vs.length=k)(hG:n+1≤G)(hm:G≤maxLen)(hb:base≤g)(hw:Whole w g e (xs.take (i * k)++zs))(hz:(xs.take (i * k)++zs).length=G * k):
  ∃cur,Whole (w.setCells g (i * k) vs) g e cur∧cur.length=G * k ∧
   ((w.setCells g (i * k) vs).setCells g ((i+1) * k) (xs.drop (i * k))).ownsRow base e k (.slice (some ⟨g,0,none⟩) (n+1) G) (n+1) (z2d xs vs (i * k)):=by
 have hik:i * k≤n * k:=Nat.mul_le_mul_right _ hi;have e1:(i+1) * k=i * k+k:=Nat.succ_mul i k;have e2:(n+1) * k=n * k+k:=Nat.succ_mul n k;have b1:(n+1) * k≤G * k:=Nat.mul_le_mul_right _ hG;have hdl:(xs.drop (i * k)).length=n * k - i * k:=by rw[List.length_drop,hx]
 have tl:(xs.take (i * k)).length=i * k:=by rw[List.length_take];omega
 have W1:=z0y vs (i * k) w _ hw (by rw[hz,hv];omega)
 have e3:(xs.take (i * k)++zs).take (i * k)=xs.take (i * k):=by
  rw[List.take_append_of_le_length (by omega),List.take_of_length_le (by omega)]
 rw[e3] at W1
 have l1:(xs.take (i * k)++vs++(xs.take (i * k)++zs).drop (i * k+vs.length)).length=G * k:=by
  rw[List.length_append,List.length_drop,hz,List.length_append,tl,hv];omega
 refine⟨_,W1,l1,?_⟩;have W2:=z0y (xs.drop (i * k)) ((i+1) * k) _ _ W1 (by rw[l1,hdl];omega)
 have e4:(xs.take (i * k)++vs++(xs.take (i * k)++zs).drop (i * k+vs.length)).take ((i+1) * k)=xs.take (i * k)++vs:=by
  rw[List.take_append_of_le_length (by rw[List.length_append,tl,hv];omega),List.take_of_length_le (by rw[List.length_append,tl,hv];omega)]
 rw[e4] at W2
 have l2:∀c1:List Value,c1.length=G * k→(xs.take (i * k)++vs++xs.drop (i * k)++c1.drop ((i+1) * k+(xs.drop (i * k)).length)).length=G * k:=by
  intro c1 hc1;simp only[List.length_append,List.length_take,List.length_drop,hv,hc1,hx];omega
 have:=z1x (cap:=G) (k:=k) (n:=n+1) (base:=base) W2 (l2 _ l1) hb hG hm
 have hlen:(xs.take (i * k)++vs++xs.drop (i * k)).length=(n+1) * k:=by
  simp only[List.length_append,List.length_take,List.length_drop,hx,hv];omega
 rw[List.take_append_of_le_length (by omega),List.take_of_length_le (by omega)] at this;exact this
end
theorem z6d(b:Nat):∀(vs:List Value) (o:Nat) (w:World),w.drew.setCells b o vs=(w.setCells b o vs).drew
 | [],_,_=>rfl
 | v :: r,o,w=>by
  rw[World.setCells,World.setCells];exact z6d b r (o+1) (w.setCell ⟨b,o,none⟩ v)
theorem z8g{w w1 w2:World}{r:Option Nat}{g:Nat}(h:w.grownBy w1 r)(h2:w1.grownBy w2 (some g))(hg:w.heap.size≤g):w.grownBy w2 r:=
 ⟨h2.os.trans h.os,h2.tape.trans h.tape,h2.output.trans h.output,Nat.le_trans h.size h2.size,fun j hj hne=>(h2.block j (Nat.lt_of_lt_of_le hj h.size) (by intro e;injection e with e;omega)).trans (h.block j hj hne)⟩
theorem ze1(w:World)(o:Obj)(r:Option Nat):w.grownBy (w.alloc o) r:=
 ⟨rfl,rfl,rfl,by show _≤(w.heap.push o).size;simp,fun j hj _=>Below.heap_alloc w o j hj⟩
section
variable {P:Program}
theorem z9o(w:World){o:Oper}{a:Act}{K:Act→World→Prop}{Q:Exit→Act→World→Prop}(d s:Operand)(t t':TypeId)
  (ho:o.op=.call { callee:=.builtin .copy,args:=#[d,s],argTypes:=#[t,t'] }) (v u:Value) (hd:a.eval d=v) (hs:a.eval s=u) {v':Value} {w':World}
  (hr:(Builtin.copy_ #[t,t'] o.type #[v,u]).run P w=.ok v' w') (h:K (a.put o.dst v') w'):o.wp P a w K Q:=by
 unfold Oper.wp execOp;simp only[ho,resolve,invoke,builtin,Sem.run_bind,Sem.run_pure,Result.andThen_ok,List.map_toArray,List.map_cons,List.map_nil,hd,hs,hr];exact h
theorem z5i(w:World){ops:Array Oper}{rest:List Oper}{o:Oper}{a:Act}{Q:Exit→Act→World→Prop}(hgd:o.guard=none)(d s:Operand)(t t':TypeId)
  (ho:o.op=.call { callee:=.builtin .copy,args:=#[d,s],argTypes:=#[t,t'] }) (v u:Value) (hd:a.eval d=v) (hs:a.eval s=u) {v':Value} {w':World}
  (hr:(Builtin.copy_ #[t,t'] o.type #[v,u]).run P w=.ok v' w') (h:wpList P ops Q rest (a.put o.dst v') w'):wpList P ops Q (o :: rest) a w:=
 wpList_plain hgd fun _ hK=>z9o w d s t t' ho v u hd hs hr (hK _ _ h)
theorem z72{ops:Array Oper}{o:Oper}{a:Act}{w:World}{K:Act→World→Prop}{Q:Exit→Act→World→Prop}{E:Prop}(hgd:o.guard=none)(d s:Operand)(t t':TypeId)
  (ho:o.op=.call { callee:=.builtin .copy,args:=#[d,s],argTypes:=#[t,t'] }) (v u:Value) (hd:a.eval d=v) (hs:a.eval s=u) {v':Value} {w':World}
  (hr:(Builtin.copy_ #[t,t'] o.type #[v,u]).run P w=.ok v' w') (h:K (a.put o.dst v') w'):
  if Region.wanted o (yielded ops a.tmps)=true then Oper.wp P o a w K Q else E:=by
 have hw:Region.wanted o (yielded ops a.tmps)=true:=by simp[Region.wanted,hgd]
 rw[if_pos hw];exact z9o w d s t t' ho v u hd hs hr h
end
section
variable {P:Program} (w:World)
theorem zgm{t t2 e ty:TypeId}(ht:P.underlying t=some (.slice e))(ht2:P.underlying t2=some (.slice e))(v x:Value):(Builtin.append_ #[t,t2] ty #[v,x]).run P w=(Builtin.append_ #[t,t] ty #[v,x]).run P w:=by
 cases v <;> simp[Builtin.append_,run_underlying ht,run_underlying ht2]
theorem zap{o:Oper}{a:Act}{K:Act→World→Prop}{Q:Exit→Act→World→Prop}(s x:Operand)(t t2:TypeId)
  (ho:o.op=.call { callee:=.builtin .append,args:=#[s,x],argTypes:=#[t,t2] })
  (base:Nat) (e:TypeId) (i:TypeInfo) (z:Value) (size bytes:Nat) (ht:P.underlying t=some (.slice e)) (ht2:P.underlying t2=some (.slice e)) (hi:P.info? e=some i) (hz:i.zero=some z)
  (hsize:i.size=size) (hby:i.bytes=bytes) (hzs:z.cells.size=size) (hsz:0 < size)
  (v:Value) (n:Nat) (xs:List Value) (hs:a.eval s=v) (hown:w.ownsRow base e size v n xs)
  (B:Nat) (vx:Value) (m:Nat) (news:List Value) (hx:a.eval x=vx) (hr:Sl w B size vx m news) (h1:∀u∈news,u.oneCell'=true)
  (h63:n+m≤maxLen) (hbytes:(n+m) * bytes≤140737488355328) (hbase:base≤w.heap.size)
  (h:∀v' w',w'.ownsRow base e size v' (n+m) (xs++news)→w.grownBy w' v.ownBlock→(v'.ownBlock=v.ownBlock∨v'.ownBlock=some w.heap.size)→K (a.put o.dst v') w'):o.wp P a w K Q:=by
 obtain⟨v',w',hrun,h2,h3,h4⟩:=z6c (P:=P) w base t o.type e i z size bytes ht hi hz hsize hby hzs hsz v n xs hown B vx m news hr h1 h63 hbytes hbase;rw[←zgm w ht ht2] at hrun;unfold Oper.wp execOp;simp only[ho,resolve,invoke,builtin,Sem.run_bind,Sem.run_pure,Result.andThen_ok,List.map_toArray,List.map_cons,List.map_nil,hs,hx,hrun];exact h v' w' h2 h3 h4
theorem z42{ops:Array Oper}{rest:List Oper}{o:Oper}{a:Act}{Q:Exit→Act→World→Prop}(hgd:o.guard=none)(s x:Operand)(t t2:TypeId)
  (ho:o.op=.call { callee:=.builtin .append,args:=#[s,x],argTypes:=#[t,t2] })
  (base:Nat) (e:TypeId) (i:TypeInfo) (z:Value) (size bytes:Nat) (ht:P.underlying t=some (.slice e)) (ht2:P.underlying t2=some (.slice e)) (hi:P.info? e=some i) (hz:i.zero=some z)
  (hsize:i.size=size) (hby:i.bytes=bytes) (hzs:z.cells.size=size) (hsz:0 < size)
  (v:Value) (n:Nat) (xs:List Value) (hs:a.eval s=v) (hown:w.ownsRow base e size v n xs)
  (B:Nat) (vx:Value) (m:Nat) (news:List Value) (hx:a.eval x=vx) (hr:Sl w B size vx m news) (h1:∀u∈news,u.oneCell'=true)
  (h63:n+m≤maxLen) (hbytes:(n+m) * bytes≤140737488355328) (hbase:base≤w.heap.size)
  (h:∀v' w',w'.ownsRow base e size v' (n+m) (xs++news)→w.grownBy w' v.ownBlock→(v'.ownBlock=v.ownBlock∨v'.ownBlock=some w.heap.size)→wpList P ops Q rest (a.put o.dst v') w'):wpList P ops Q (o :: rest) a w:=
 wpList_plain hgd fun _ hK=>zap w s x t t2 ho base e i z size bytes ht ht2 hi hz hsize hby hzs hsz v n xs hs hown B vx m news hx hr h1 h63 hbytes hbase fun v' w' h2 h3 h4=>hK _ _ (h v' w' h2 h3 h4)
end
attribute [local go_sem] z0p
attribute [local go_sem] z0p
end Go.Proofs.YtmkhmejempcimaaGreatDoor
