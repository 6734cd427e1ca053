/- Contracts that the proof of E3 uses. No condition beyond those in each theorem. -/
import Derived.Test.YtamgdmiopinidaaGreatDoorSlE38
set_option linter.unusedVariables false
set_option linter.unusedSimpArgs false
set_option maxHeartbeats 8000000
set_option maxRecDepth 100000
namespace Go.Proofs.YtamgdmiopinidaaGreatDoor
open Lib (hid)
open Tryz (prog)
open Go.RowKit
theorem zad(x:Itm)(v:Value)(w:World)(B:Nat)(hs:x.Small)(hB:B≤w.heap.size)(h:z0q w B v x) :
  Calls prog 241 #[v] w fun e w'=>e=.returned (.int .i64 (z02 4 x))∧Fr [] w w':=by
 have M:=hid (fun W (hf:Fr [] w W)=>zhs x 4 v W B hs (Nat.le_trans hB hf.size) (h.fr hf hB (by simp)))
 obtain⟨A1,c1,A2,c2,A3,c3,rfl,h1,h2,h3⟩:=h
 have F1:Fr [] w (w.alloc (.cells #[.int .i64 x.kind,.string x.text,.slice A1 x.list.length c1,.slice A2 x.pairs.length c2,.slice A3 x.scores.length c3] 43)):=(Fr.refl [] w).alloc _
 go_enter Tryz.func241,Tryz.ntmps241
 go_wp2_with fail
 refine(M.out _ F1).mono ?_
 rintro e w1 ⟨rfl,f1⟩
 go_wp2
 go_ret
 exact⟨rfl,F1.trans f1⟩
def zhf(l:List (ByteArray×ByteArray)):Itm:=⟨4,⟨#[]⟩,[],l,[]⟩
theorem zlc(l:List (ByteArray×ByteArray))(A:Option Addr)(c:Nat)(w:World)(B:Nat)(hs:(zhf l).Small)(hB:B≤w.heap.size)(h:Sl w B 2 (.slice A l.length c) l.length (z0e l)) :
  Calls prog 245 #[.slice A l.length c] w fun e w'=>e=.returned (if l.length=0 then .agg #[.int .i64 0,.string ⟨#[]⟩,.slice none 0 0,.slice none 0 0,.slice none 0 0] else .agg #[.int .i64 4,.string ⟨#[]⟩,.slice none 0 0,.slice A l.length c,.slice none 0 0])∧Fr [] w w':=by
 have hv:z0q w B (.agg #[.int .i64 4,.string ⟨#[]⟩,.slice none 0 0,.slice A l.length c,.slice none 0 0]) (zhf l):=⟨none,0,A,c,none,0,rfl,Sl.nil _ _ _,h,Sl.nil _ _ _⟩
 have O:=hid (fun W (hf:Fr [] w W)=>(show Calls prog 274 #[.agg #[.int .i64 4,.string ⟨#[]⟩,.slice none 0 0,.slice A l.length c,.slice none 0 0]] W fun e w'=>e=.returned (if l.length=0 then .agg #[.int .i64 0,.string ⟨#[]⟩,.slice none 0 0,.slice none 0 0,.slice none 0 0] else .agg #[.int .i64 4,.string ⟨#[]⟩,.slice none 0 0,.slice A l.length c,.slice none 0 0])∧Fr [] W w' from by have:=zkq (zhf l) (.agg #[.int .i64 4,.string ⟨#[]⟩,.slice none 0 0,.slice A l.length c,.slice none 0 0]) W B hs (Nat.le_trans hB hf.size) (hv.fr hf hB (by simp)) (show(4:Int)≠1 by decide);unfold ofV at this;rw[show many (zhf l)=l.length from by show 0+l.length+0=l.length;omega] at this;exact this))
 have F1:Fr [] w (w.alloc (.cells #[.int .i64 0,.string ⟨#[]⟩,.slice none 0 0,.slice none 0 0,.slice none 0 0] 43)):=(Fr.refl [] w).alloc _
 have R1:=hid (show Whole (w.alloc (.cells #[.int .i64 0,.string ⟨#[]⟩,.slice none 0 0,.slice none 0 0,.slice none 0 0] 43)) w.heap.size 43 [.int .i64 0,.string ⟨#[]⟩,.slice none 0 0,.slice none 0 0,.slice none 0 0] from Whole.new w _ _)
 clear hv h hs
 by_cases hm:l.length=0
 ·rw[if_pos hm] at O ⊢
  clear hm
  go_enter Tryz.func245,Tryz.ntmps245
  go_wp2_with fail
  refine(O.out _ F1).mono ?_
  rintro e w1 ⟨rfl,f1⟩
  have F2:=F1.trans f1
  have R2:=hid (R1.out.fr f1 (by simp))
  obtain⟨a0,a1,a2,a3,a4⟩:=five R2.out
  obtain⟨b0,b2,b3,b4,b5⟩:=z10 R2.out
  go_wp2
  refine bodyPost_ret (v:=.agg #[.int .i64 0,.string ⟨#[]⟩,.slice none 0 0,.slice none 0 0,.slice none 0 0]) (by simp[results,Tryz.results245,go_sem,a0,a1,a2,a3,a4]) rfl ?_
  refine⟨rfl,z49 F2 (Nat.le_refl _) _ _ _ _ _⟩
 ·rw[if_neg hm] at O ⊢
  clear hm
  go_enter Tryz.func245,Tryz.ntmps245
  go_wp2_with fail
  refine(O.out _ F1).mono ?_
  rintro e w1 ⟨rfl,f1⟩
  have F2:=F1.trans f1
  have R2:=hid (R1.out.fr f1 (by simp))
  obtain⟨a0,a1,a2,a3,a4⟩:=five R2.out
  obtain⟨b0,b2,b3,b4,b5⟩:=z10 R2.out
  go_wp2
  refine bodyPost_ret (v:=.agg #[.int .i64 4,.string ⟨#[]⟩,.slice none 0 0,.slice A l.length c,.slice none 0 0]) (by simp[results,Tryz.results245,go_sem,a0,a1,a2,a3,a4]) rfl ?_
  refine⟨rfl,z49 F2 (Nat.le_refl _) _ _ _ _ _⟩
def ofP(l:List (ByteArray×ByteArray)):Itm:=if l.length=0 then z2r 0 else zhf l
theorem zcs{l:List (ByteArray×ByteArray)}(hl:l.length≤1000000)(ht:∀s∈l,s.1.size≤281474976710656∧s.2.size≤281474976710656):(zhf l).Small:=
 ⟨by show -9223372036854775808≤(4:Int)∧(4:Int)≤9223372036854775807;omega,by show(⟨#[]⟩:ByteArray).size≤_;decide,by show 0≤_;omega,by show l.length≤_;omega,by show 0≤_;omega,(fun p hp=>by cases hp),ht,(fun p hp=>by cases hp)⟩
def OwnI4(base:Nat)(x:Itm)(w:World)(e:Ending)(w':World):Prop:=∃u,e=.returned u∧z0l w' base u x∧Fr [] w w'
theorem zef(l:List (ByteArray×ByteArray))(base:Nat)(v:Value)(w:World)(hl:l.length≤1000000)(ht:∀s∈l,s.1.size≤281474976710656∧s.2.size≤281474976710656)(h:w.ownsRow base 86 2 v l.length (z0e l)) :
  Calls prog 245 #[v] w (OwnI4 base (ofP l) w):=by
 obtain⟨A,c,rfl,-⟩:=z06 h
 refine(zlc l A c w w.heap.size (zcs hl ht) (Nat.le_refl _) (z0t h)).mono ?_
 rintro e w' ⟨rfl,hf⟩
 unfold ofP
 by_cases h0:l.length=0
 ·rw[if_pos h0,if_pos h0]
  exact⟨_,rfl,z0l.nothing _ _,hf⟩
 ·rw[if_neg h0,if_neg h0]
  exact⟨_,rfl,⟨_,_,_,rfl,⟨rfl,.inl ⟨rfl,rfl⟩⟩,z0n h hf (by simp),⟨rfl,.inl ⟨rfl,rfl⟩⟩⟩,hf⟩
theorem zsp(a b:ByteArray)(w:World):Calls prog 242 #[.agg #[.string a,.string b]] w fun e w'=>e=.returned (.bool (decide (60 < a.size)||decide (60 < b.size)))∧Fr [] w w':=by
 have L1:=hid (fun W=>z2w a W)
 have L2:=hid (fun W=>z2w b W)
 by_cases h:60 < a.size
 ·rw[decide_eq_true h] at L1 ⊢
  go_enter Tryz.func242,Tryz.ntmps242
  go_wp2_with fail
  refine(L1.out _).mono ?_
  rintro e w1 ⟨rfl,rfl⟩
  go_wp2
  go_ret
  exact⟨rfl,(Fr.refl [] w).alloc _⟩
 ·rw[decide_eq_false h] at L1 ⊢
  go_enter Tryz.func242,Tryz.ntmps242
  go_wp2_with fail
  refine(L1.out _).mono ?_
  rintro e w1 ⟨rfl,rfl⟩
  go_wp2_with fail
  refine(L2.out _).mono ?_
  rintro e w1 ⟨rfl,rfl⟩
  go_wp2
  go_ret
  exact⟨rfl,(Fr.refl [] w).alloc _⟩
theorem zp0(D:Nat)(w:World):zlv 242 #[] z4p D w:=fun W x hW=>zsp x.1 x.2 W
theorem zph(g:Nat)(lb:Array Value)(eg:∀args w,(callFunc g args).run prog w=.ok (.enter g args) w)(p:(ByteArray×ByteArray)→Bool)(D:Nat)(l:List (ByteArray×ByteArray))(A:Option Addr)(c B:Nat)(w:World)(hp:zlv g lb p D w)(hl:l.length≤281474976710656)(hB:B≤w.heap.size)
  (hsl:Sl w B 2 (.slice A l.length c) l.length (z0e l)) :
  Calls prog 156 #[.slice A l.length c,.func (Fn.func g) #[] lb] w fun e w'=>e=.returned (.bool (l.any p))∧Fr [] w w':=by
 have I:=hid (zkf g lb eg p D l A c B w hp hl hB hsl)
 have h:=z7l p l
 clear hsl hp
 generalize z3c p l=r at *
 generalize l.any p=b at *
 generalize l.length=n at *
 cases b
 ·have hr:r < 0:=by simpa using h
  clear h
  go_enter Tryz.func156,Tryz.ntmps156
  go_wp2_with fail
  refine I.out.mono ?_
  rintro e w1 ⟨rfl,h1⟩
  go_wp2
  go_ret
  exact⟨by simp <;> omega,h1⟩
 ·have hr:0≤r:=by simpa using h
  clear h
  go_enter Tryz.func156,Tryz.ntmps156
  go_wp2_with fail
  refine I.out.mono ?_
  rintro e w1 ⟨rfl,h1⟩
  go_wp2
  go_ret
  exact⟨by simp <;> omega,h1⟩
theorem zn0(x:ByteArray×ByteArray)(l:List ByteArray)(A:Option Addr)(c g B:Nat)(w:World)(hl:l.length≤281474976710656)(hB:B≤w.heap.size)(h:Sl w B 1 (.slice A l.length c) l.length (z03 l))(hg:w.cell? ⟨g,0,none⟩=some (.slice A l.length c)) :
  Calls prog 247 (#[.agg #[.string x.1,.string x.2]]++#[.pointer (some ⟨g,0,none⟩)]) w fun e w'=>e=.returned (.bool (l.any fun y=>decide (y=x.1)))∧Fr [] w w':=by
 have F1:Fr [] w (w.alloc (.cells #[.string x.1,.string x.2] 86)):=(Fr.refl [] w).alloc _
 have V1:=hid (show Whole (w.alloc (.cells #[.string x.1,.string x.2] 86)) w.heap.size 86 [.string x.1,.string x.2] from Whole.new w _ _)
 have CT:=hid (fun W (hf:Fr [] w W)=>z6x l x.1 A c B W hl (Nat.le_trans hB hf.size) (h.fr hf hB (by simp)))
 have hgl:g < w.heap.size:=World.block_lt_of_cell? w _ hg
 have hg1:(w.alloc (.cells #[.string x.1,.string x.2] 86)).cell? ⟨g,0,none⟩=some (.slice A l.length c):=F1.cell hg (by simp)
 have c0:(w.alloc (.cells #[.string x.1,.string x.2] 86)).cell? ⟨w.heap.size,0,none⟩=some (.string x.1):=V1.out.cell 0
 generalize (l.any fun y=>decide (y=x.1))=b at *
 clear h hg
 go_enter Tryz.func247,Tryz.ntmps247
 go_wp2_with fail
 refine(CT.out _ F1).mono ?_
 rintro e w1 ⟨rfl,rfl⟩
 go_wp2
 go_ret
 exact⟨rfl,F1⟩
theorem zmd(l:List ByteArray)(A:Option Addr)(c g D:Nat)(w:World)(hl:l.length≤281474976710656)(hD:D≤w.heap.size)(h:Sl w D 1 (.slice A l.length c) l.length (z03 l))(hc:w.cell? ⟨g,0,none⟩=some (.slice A l.length c))(hg:g < D) :
  zlv 247 #[.pointer (some ⟨g,0,none⟩)] (fun x=>l.any fun y=>decide (y=x.1)) D w:=
 fun W x hW=>zn0 x l A c g D W hl (Nat.le_trans hD hW.size) (zq0 h hW (Nat.le_refl _)) (z4t hW hc hg (by simp))
end Go.Proofs.YtamgdmiopinidaaGreatDoor
namespace Go.Proofs.YtamgdmiopinidaaGreatDoor
open Lib (hid)
open Tryz (prog)
section
variable {α:Type} (key:α→ByteArray)
def zpl(l:List α)(f:ByteArray):Option α:=l.find? fun q=>decide (key q=f)
theorem zfm{l:List α}{f:ByteArray}{q:α}(h:zpl key l f=some q):q∈l∧key q=f:=⟨List.mem_of_find?_eq_some h,by have:=List.find?_some h;simpa using this⟩
theorem zq5{l:List α}{f:ByteArray}(h:zpl key l f=none):∀q∈l,key q≠f:=fun q hq=>by
 have:=List.find?_eq_none.1 h q hq
 simpa using this
theorem zs1{l:List α}{f:ByteArray}(hr:rises (ltK key) l=true)(h:z5r key l f=true):l[z1z key l f]? = zpl key l f∧(zpl key l f).isSome=true:=by
 obtain⟨q,hq,he⟩:=(z36 key).1 h
 have hm:=List.mem_of_getElem? hq
 cases hg:zpl key l f with
 | none=>exact absurd he (zq5 key hg q hm)
 | some q'=>
  obtain⟨hm',he'⟩:=zfm key hg
  obtain⟨k,hk⟩:=List.getElem?_of_mem hm'
  have e1:=zee key hr hk
  rw[he'] at e1
  rw[e1,hk]
  exact⟨rfl,rfl⟩
theorem zpi{l:List α}{f:ByteArray}(hr:rises (ltK key) l=true)(h:z5r key l f=false):zpl key l f=none:=by
 cases hg:zpl key l f with
 | none=>rfl
 | some q'=>
  obtain⟨hm',he'⟩:=zfm key hg
  obtain⟨k,hk⟩:=List.getElem?_of_mem hm'
  have:=zcm key hr hk
  rw[he',h] at this
  cases this
theorem zao:∀(l:List α) {xs:List α},rises (ltK key) xs=true→rises (ltK key) (l.foldl (zbl key) xs)=true
 | [],_,h=>h
 | p :: r,_,h=>zao r (ze2 key p h)
theorem zbz:∀(l:List α) {xs:List α} {q:α},q∈l.foldl (zbl key) xs→q∈l∨q∈xs
 | [],_,_,h=>.inr h
 | p :: r,_,_,h=>by
  rcases zbz r h with h|h
  ·exact .inl (.tail _ h)
  ·rcases zs4 key h with rfl|h
   ·exact .inl (.head _)
   ·exact .inr h
theorem zs7(l:List α)(p:α):l.length≤(zbl key l p).length∧(zbl key l p).length≤l.length+1:=by
 rw[zj4]
 split <;> omega
theorem zl6:∀(l xs:List α),(l.foldl (zbl key) xs).length≤xs.length+l.length∧xs.length≤(l.foldl (zbl key) xs).length
 | [],xs=>⟨Nat.le_refl _,Nat.le_refl _⟩
 | p :: r,xs=>by
  have h1:=zl6 r (zbl key xs p)
  have h2:=zs7 key xs p
  rw[List.foldl_cons,List.length_cons]
  omega
end
def zql(x:Itm)(l:List (ByteArray×ByteArray)):List (ByteArray×ByteArray):=l.foldl (zbl Prod.fst) x.pairs
def z1y(x:Itm)(l:List (ByteArray×ByteArray)):Int:=if z02 4 x≠0 then z02 4 x else if l.length=0 then 1 else if l.any z4p=true then 2 else 0
def z1v(x:Itm)(l:List (ByteArray×ByteArray)):Int:=if z1y x l≠0 then z1y x l else if 24 < (zql x l).length then 2 else 0
def zl9(x:Itm)(l:List (ByteArray×ByteArray)):Itm:=if z1v x l=0 then ofP (zql x l) else z2r 0
def zr6(x:Itm)(l:List (ByteArray×ByteArray)):Int:=if z1v x l=0 then ((zql x l).length:Int) - x.pairs.length else 0
def z5k(x:Itm)(f:ByteArray):Int:=if z02 4 x≠0 then z02 4 x else match zpl Prod.fst x.pairs f with|some _=>0|none=>5
def zr5(x:Itm)(f:ByteArray):ByteArray:=if z02 4 x≠0 then ⟨#[]⟩ else match zpl Prod.fst x.pairs f with|some q=>q.2|none=>⟨#[]⟩
def zam(x:Itm)(l:List ByteArray):List (ByteArray×ByteArray):=x.pairs.filter fun p=>!(l.any fun y=>decide (y=p.1))
def z9j(x:Itm)(l:List ByteArray):Itm:=if z02 4 x=0 then ofP (zam x l) else z2r 0
def zdj(x:Itm)(l:List ByteArray):Int:=if z02 4 x=0 then (x.pairs.length:Int) - (zam x l).length else 0
theorem z83{x:Itm}(h:z02 4 x=0):rises (ltK Prod.fst) x.pairs=true:=by
 have hok:=z18 h
 rcases hok.kind with h0|h4
 ·have hm:=hok.none h0
  unfold many at hm
  have:x.pairs=[]:=List.eq_nil_of_length_eq_zero (by omega)
  rw[this]
  rfl
 ·have hc:=hok.some (by omega)
  have hb:=hok.bare
  unfold z0d at hc
  rw[if_neg (by omega),if_neg (by rw[hb];decide),if_neg (by omega)] at hc
  by_cases hm:many x=0
  ·rw[if_pos hm] at hc;cases hc
  ·rw[if_neg hm] at hc
   by_cases h2:24 < many x∨z9n x=true
   ·rw[if_pos h2] at hc;cases hc
   ·rw[if_neg h2] at hc
    by_cases h3:(x.kind=3∧rises ltS x.list=false)∨(x.kind=4∧rises ltP x.pairs=false)
    ·rw[if_pos h3] at hc;cases hc
    ·have:¬rises ltP x.pairs=false:=fun e=>h3 (.inr ⟨h4,e⟩)
     have:rises ltP x.pairs=true:=by simpa using this
     exact this
theorem z96{x:Itm}(h:z02 4 x=0):x.pairs.length≤24∧∀p∈x.pairs,p.1.size≤60∧p.2.size≤60:=by
 have hok:=z18 h
 have:=hok.le24
 unfold many at this
 exact⟨by omega,hok.fields⟩
theorem zes{l:List (ByteArray×ByteArray)}(h:¬l.any z4p=true):∀p∈l,p.1.size≤60∧p.2.size≤60:=by
 intro p hp
 rw[Bool.not_eq_true,List.any_eq_false] at h
 have:=h p hp
 unfold z4p at this
 simp at this
 omega
theorem zvs{a b:Int×ByteArray}(h:z8h a b=0):a=b:=by
 unfold z8h at h
 by_cases h1:a.1=b.1
 ·rw[if_pos h1] at h
  exact Prod.ext h1 (z8s h)
 ·rw[if_neg h1] at h
  omega
theorem zol(a b:Int×ByteArray):z8h b a=- z8h a b:=by
 unfold z8h
 by_cases h1:a.1=b.1
 ·rw[if_pos h1,if_pos h1.symm]
  exact z69 _ _
 ·rw[if_neg h1,if_neg (fun h=>h1 h.symm)]
  omega
theorem ze3{a b c:Int×ByteArray}(h1:z8h a b < 0)(h2:z8h b c < 0):z8h a c < 0:=by
 unfold z8h at *
 by_cases e1:a.1=b.1
 ·rw[if_pos e1] at h1
  by_cases e2:b.1=c.1
  ·rw[if_pos e2] at h2
   rw[if_pos (e1.trans e2)]
   exact z55 h1 h2
  ·rw[if_neg e2] at h2
   rw[if_neg (by omega)]
   omega
 ·rw[if_neg e1] at h1
  by_cases e2:b.1=c.1
  ·rw[if_neg (by omega)]
   omega
  ·rw[if_neg e2] at h2
   rw[if_neg (by omega)]
   omega
theorem z9h(a b c:Int×ByteArray)(h1:ltC a b=true)(h2:ltC b c=true):ltC a c=true:=
 decide_eq_true (ze3 (of_decide_eq_true h1) (of_decide_eq_true h2))
def z7b(l:List (Int×ByteArray))(s:Int×ByteArray):Nat:=(l.takeWhile fun q=>decide (z8h q s < 0)).length
theorem zfb(l:List (Int×ByteArray))(s:Int×ByteArray):z7b l s≤l.length:=(List.takeWhile_sublist _).length_le
theorem zis:∀ {l:List (Int×ByteArray)} {s:Int×ByteArray} {k:Nat} {q:Int×ByteArray},k < z7b l s→l[k]? = some q→z8h q s < 0
 | [],s,k,q,h,hq=>by simp at hq
 | x :: r,s,k,q,h,hq=>by
  unfold z7b at h
  rw[List.takeWhile_cons] at h
  by_cases hx:z8h x s < 0
  ·rw[if_pos (by simpa using hx)] at h
   match k with
   | 0=>rw[List.getElem?_cons_zero] at hq;cases hq;exact hx
   | k'+1=>
    rw[List.getElem?_cons_succ] at hq
    exact zis (l:=r) (k:=k') (by unfold z7b;simp at h;omega) hq
  ·rw[if_neg (by simpa using hx)] at h
   simp at h
theorem zpn:∀ {l:List (Int×ByteArray)} {s q:Int×ByteArray},l[z7b l s]? = some q→¬z8h q s < 0
 | [],s,q,hq=>by simp at hq
 | x :: r,s,q,hq=>by
  unfold z7b at hq
  rw[List.takeWhile_cons] at hq
  by_cases hx:z8h x s < 0
  ·rw[if_pos (by simpa using hx),List.length_cons,List.getElem?_cons_succ] at hq
   exact zpn (l:=r) hq
  ·rw[if_neg (by simpa using hx)] at hq
   simp at hq
   rw[←hq]
   exact hx
theorem zo7{l:List (Int×ByteArray)}{s:Int×ByteArray}{k:Nat}{q:Int×ByteArray}(hr:rises ltC l=true)(hk:z7b l s≤k)(hq:l[k]? = some q):¬z8h q s < 0:=by
 obtain⟨hlt,_⟩:=List.getElem?_eq_some_iff.1 hq
 obtain⟨q0,h0⟩:∃q0,l[z7b l s]? = some q0:=⟨_,List.getElem?_eq_getElem (by omega)⟩
 have n0:=zpn h0
 rcases Nat.lt_or_ge (z7b l s) k with h|h
 ·intro hlt
  have:=of_decide_eq_true (z6p z9h hr h h0 hq)
  exact n0 (ze3 this hlt)
 ·have e:k=z7b l s:=by omega
  rw[e,h0] at hq
  cases hq
  exact n0
def zr7(l:List (Int×ByteArray))(s:Int×ByteArray):List (Int×ByteArray):=l.take (z7b l s)++s :: l.drop (z7b l s)
def ztr(l:List (Int×ByteArray))(m:ByteArray):List (Int×ByteArray):=l.filter fun q=>!decide (q.2=m)
def zg0(l:List (Int×ByteArray))(s:Int×ByteArray):List (Int×ByteArray):=zr7 (ztr l s.2) s
structure z8g(l:List (Int×ByteArray)):Prop where
 rise:rises ltC l=true
 dist:(l.map (·.2)).Nodup
 ok:∀s∈l,z0m s.1=true∧s.2.size≤60
theorem z8g.nil:z8g []:=⟨rfl,List.nodup_nil,fun s h=>by cases h⟩
theorem z8g.sub{l l':List (Int×ByteArray)}(h:z8g l)(hs:l'.Sublist l):z8g l':=
 ⟨z3i ((z2n z9h h.rise).sublist hs),h.dist.sublist (hs.map _),fun s hs'=>h.ok s (hs.subset hs')⟩
theorem z8g.off{l:List (Int×ByteArray)}(h:z8g l)(m:ByteArray):z8g (ztr l m):=h.sub List.filter_sublist
theorem zqy(l:List (Int×ByteArray))(m:ByteArray):∀q∈ztr l m,q.2≠m:=by
 intro q hq
 have:=(List.mem_filter.1 hq).2
 simpa using this
theorem zew(l:List (Int×ByteArray))(m:ByteArray):(ztr l m).length≤l.length:=List.length_filter_le _ _
theorem ztj(l:List (Int×ByteArray))(s:Int×ByteArray):(zr7 l s).length=l.length+1:=by
 have:=zfb l s
 unfold zr7
 rw[List.length_append,List.length_cons,List.length_take,List.length_drop]
 omega
theorem zrn{l:List (Int×ByteArray)}{s q:Int×ByteArray}:q∈zr7 l s↔q=s∨q∈l:=by
 unfold zr7
 rw[List.mem_append,List.mem_cons]
 constructor
 ·rintro(h|h|h)
  ·exact .inr (List.mem_of_mem_take h)
  ·exact .inl h
  ·exact .inr (List.mem_of_mem_drop h)
 ·rintro(h|h)
  ·exact .inr (.inl h)
  ·rw[←List.take_append_drop (z7b l s) l] at h
   rcases List.mem_append.1 h with h|h
   ·exact .inl h
   ·exact .inr (.inr h)
theorem z8g.ins{l:List (Int×ByteArray)}{s:Int×ByteArray}(h:z8g l)(hn:∀q∈l,q.2≠s.2)(hs:z0m s.1=true∧s.2.size≤60):z8g (zr7 l s):=by
 have hpw:=z2n z9h h.rise
 have hlow:∀q∈l.take (z7b l s),ltC q s=true:=by
  intro q hq
  obtain⟨j,hj⟩:=List.getElem?_of_mem hq
  rw[List.getElem?_take] at hj
  split at hj
  ·rename_i hlt
   exact decide_eq_true (zis hlt hj)
  ·cases hj
 have hhigh:∀q∈l.drop (z7b l s),ltC s q=true:=by
  intro q hq
  obtain⟨j,hj⟩:=List.getElem?_of_mem hq
  rw[List.getElem?_drop] at hj
  have h1:=zo7 h.rise (Nat.le_add_right (z7b l s) j) hj
  have h2:=zol s q
  rcases Int.lt_trichotomy (z8h s q) 0 with h3|h3|h3
  ·exact decide_eq_true h3
  ·exact absurd (congrArg Prod.snd (zvs h3)).symm (hn q (List.mem_of_mem_drop hq))
  ·omega
 refine⟨z3i ?_,?_,fun q hq=>?_⟩
 ·unfold zr7
  rw[List.pairwise_append]
  refine⟨hpw.sublist (List.take_sublist _ _),List.pairwise_cons.2 ⟨hhigh,hpw.sublist (List.drop_sublist _ _)⟩,?_⟩
  intro a ha b hb
  rcases List.mem_cons.1 hb with rfl|hb
  ·exact hlow a ha
  ·exact z9h _ _ _ (hlow a ha) (hhigh b hb)
 ·unfold zr7
  have hp:(l.take (z7b l s)++s :: l.drop (z7b l s)).Perm (s :: l):=by
   have:=List.perm_middle (a:=s) (l₁:=l.take (z7b l s)) (l₂:=l.drop (z7b l s))
   rw[List.take_append_drop] at this
   exact this
  rw[(hp.map (·.2)).nodup_iff,List.map_cons,List.nodup_cons]
  refine⟨fun hm=>?_,h.dist⟩
  obtain⟨q,hq,he⟩:=List.mem_map.1 hm
  exact hn q hq he
 ·rcases zrn.1 hq with rfl|hq
  ·exact hs
  ·exact h.ok q hq
theorem z8g.put{l:List (Int×ByteArray)}{s:Int×ByteArray}(h:z8g l)(hs:z0m s.1=true∧s.2.size≤60):z8g (zg0 l s):=(h.off s.2).ins (zqy l s.2) hs
theorem z8g.fold:∀(l:List (Int×ByteArray)) {xs:List (Int×ByteArray)},z8g xs→(∀s∈l,z0m s.1=true∧s.2.size≤60)→z8g (l.foldl zg0 xs)
 | [],_,h,_=>h
 | s :: r,_,h,hs=>z8g.fold r (h.put (hs s (.head _))) (fun q hq=>hs q (.tail _ hq))
theorem zra(l:List (Int×ByteArray))(s:Int×ByteArray):(zg0 l s).length≤l.length+1:=by
 have:=zew l s.2
 unfold zg0
 rw[ztj]
 omega
theorem zh7:∀(l xs:List (Int×ByteArray)),(l.foldl zg0 xs).length≤xs.length+l.length
 | [],xs=>Nat.le_refl _
 | s :: r,xs=>by
  have h1:=zh7 r (zg0 xs s)
  have h2:=zra xs s
  rw[List.foldl_cons,List.length_cons]
  omega
theorem zso{l:List (Int×ByteArray)}{m:ByteArray}{k:Nat}{s:Int×ByteArray}(hd:(l.map (·.2)).Nodup)(hk:l[k]? = some s)(hm:s.2=m):ztr l m=l.take k++l.drop (k+1):=by
 obtain⟨hlt,he⟩:=List.getElem?_eq_some_iff.1 hk
 have e:l=l.take k++s :: l.drop (k+1):=by rw[←he,←List.drop_eq_getElem_cons hlt,List.take_append_drop]
 generalize l.take k=a at *
 generalize l.drop (k+1)=b at *
 subst hm
 rw[e,List.map_append,List.map_cons] at hd
 rw[e]
 have h2:=(List.nodup_append.1 hd)
 have h3:=List.nodup_cons.1 h2.2.1
 unfold ztr
 rw[List.filter_append,List.filter_cons]
 simp only[decide_true,Bool.not_true,Bool.false_eq_true,if_false]
 rw[List.filter_eq_self.2,List.filter_eq_self.2]
 ·intro q hq
  have:q.2≠s.2:=fun he=>h3.1 (by rw[←he];exact List.mem_map_of_mem hq)
  simpa using this
 ·intro q hq
  have:q.2≠s.2:=fun he=>h2.2.2 q.2 (List.mem_map_of_mem hq) s.2 (.head _) he
  simpa using this
theorem zsq{l:List (Int×ByteArray)}{m:ByteArray}(h:∀q∈l,q.2≠m):ztr l m=l:=by
 unfold ztr
 rw[List.filter_eq_self]
 intro q hq
 simpa using h q hq
theorem zde(m:ByteArray)(l:List (Int×ByteArray)):(z3c (fun q:Int×ByteArray=>decide (q.2=m)) l=-1∧∀q∈l,q.2≠m)∨∃(k:Nat) (s:Int×ByteArray),z3c (fun q:Int×ByteArray=>decide (q.2=m)) l=k∧l[k]? = some s∧s.2=m∧∀(j:Nat) t,j < k→l[j]? = some t→t.2≠m:=by
 cases h:l.findIdx? (fun q:Int×ByteArray=>decide (q.2=m)) with
 | none=>
  refine .inl ⟨by unfold z3c;rw[h],fun q hq=>?_⟩
  have:=List.findIdx?_eq_none_iff.1 h q hq
  simpa using this
 | some k=>
  obtain⟨hlt,hp,hno⟩:=List.findIdx?_eq_some_iff_getElem.1 h
  refine .inr ⟨k,l[k],by unfold z3c;rw[h],List.getElem?_eq_getElem hlt,by simpa using hp,fun j t hj ht=>?_⟩
  obtain⟨hjl,rfl⟩:=List.getElem?_eq_some_iff.1 ht
  have:=hno j hj
  simpa using this
def zbf:List (Int×ByteArray)→Int
 | []=>0
 | s :: r=>if z0m s.1=false then 3 else if 60 < s.2.size then 2 else zbf r
theorem zm7{l:List (Int×ByteArray)}{k:Nat}{s:Int×ByteArray}(h:l[k]? = some s):zbf (l.drop k)=if z0m s.1=false then 3 else if 60 < s.2.size then 2 else zbf (l.drop (k+1)):=by
 obtain⟨hlt,rfl⟩:=List.getElem?_eq_some_iff.1 h
 rw[List.drop_eq_getElem_cons hlt]
 rfl
theorem zpg{l:List (Int×ByteArray)}{k:Nat}(h:l.length≤k):zbf (l.drop k)=0:=by
 rw[List.drop_of_length_le h]
 rfl
theorem zl8:∀ {l:List (Int×ByteArray)},zbf l=0→∀s∈l,z0m s.1=true∧s.2.size≤60
 | [],_,s,hs=>by cases hs
 | q :: r,h,s,hs=>by
  unfold zbf at h
  by_cases h1:z0m q.1=false
  ·rw[if_pos h1] at h;cases h
  ·rw[if_neg h1] at h
   by_cases h2:60 < q.2.size
   ·rw[if_pos h2] at h;cases h
   ·rw[if_neg h2] at h
    rcases List.mem_cons.1 hs with rfl|hs
    ·exact⟨by simpa using h1,by omega⟩
    ·exact zl8 h s hs
def z45(l:List (Int×ByteArray)):Int:=if l.length=0 then 1 else zbf l
theorem zak{l:List (Int×ByteArray)}(h:z45 l=0):l.length≠0∧∀s∈l,z0m s.1=true∧s.2.size≤60:=by
 unfold z45 at h
 by_cases h0:l.length=0
 ·rw[if_pos h0] at h;cases h
 ·rw[if_neg h0] at h
  exact⟨h0,zl8 h⟩
def zb1(l:List (Int×ByteArray)):Itm:=⟨5,⟨#[]⟩,[],[],l⟩
def ofC(l:List (Int×ByteArray)):Itm:=if l.length=0 then z2r 0 else zb1 l
def zc1(x:Itm)(l:List (Int×ByteArray)):List (Int×ByteArray):=l.foldl zg0 x.scores
def zl2(x:Itm)(l:List (Int×ByteArray)):Int:=if z02 5 x≠0 then z02 5 x else z45 l
def zbk(x:Itm)(l:List (Int×ByteArray)):Int:=if zl2 x l≠0 then zl2 x l else if 24 < (zc1 x l).length then 2 else 0
def z9i(x:Itm)(l:List (Int×ByteArray)):Itm:=if zbk x l=0 then ofC (zc1 x l) else z2r 0
def zdy(x:Itm)(l:List (Int×ByteArray)):Int:=if zbk x l=0 then ((zc1 x l).length:Int) - x.scores.length else 0
def z8x(x:Itm)(l:List ByteArray):List (Int×ByteArray):=x.scores.filter fun p=>!(l.any fun y=>decide (y=p.2))
def z61(x:Itm)(l:List ByteArray):Itm:=if z02 5 x=0 then ofC (z8x x l) else z2r 0
def z9y(x:Itm)(l:List ByteArray):Int:=if z02 5 x=0 then (x.scores.length:Int) - (z8x x l).length else 0
def z6b(x:Itm)(m:ByteArray):Int:=z3c (fun q:Int×ByteArray=>decide (q.2=m)) x.scores
def z19(x:Itm)(m:ByteArray):Int:=if z02 5 x≠0 then z02 5 x else if z6b x m < 0 then 5 else 0
def z9a(x:Itm)(m:ByteArray):Int:=if z19 x m=0 then z6b x m else 0
def zqx(x:Itm)(m:ByteArray):Int:=if z19 x m=0 then (x.scores.getD (z6b x m).toNat (0,⟨#[]⟩)).1 else 0
def z65(x:Itm)(f t:Int):List ByteArray:=if z02 5 x=0 then z29 (x.scores.map (·.2)) f t else []
def z6l(l:List (Int×ByteArray))(a b:Int):List ByteArray:=(l.filter fun s=>decide (a≤s.1)&&decide (s.1≤b)).map (·.2)
def z48(x:Itm)(a b:Int):List ByteArray:=if z02 5 x=0 then z6l x.scores a b else []
theorem z32{x:Itm}(h:z02 5 x=0):z8g x.scores∧x.scores.length≤24:=by
 have hok:=z18 h
 have h24:x.scores.length≤24:=by have:=hok.le24;unfold many at this;omega
 refine⟨?_,h24⟩
 rcases hok.kind with h0|h5
 ·have hm:=hok.none h0
  unfold many at hm
  have:x.scores=[]:=List.eq_nil_of_length_eq_zero (by omega)
  rw[this]
  exact z8g.nil
 ·have hc:=hok.some (by omega)
  have hb:=hok.bare
  unfold z0d at hc
  rw[if_neg (by omega),if_neg (by rw[hb];decide),if_neg (by omega)] at hc
  by_cases hm:many x=0
  ·rw[if_pos hm] at hc;cases hc
  ·rw[if_neg hm] at hc
   by_cases h2:24 < many x∨z9n x=true
   ·rw[if_pos h2] at hc;cases hc
   ·rw[if_neg h2,if_neg (by omega)] at hc
    unfold z1h at hc
    by_cases c1:(x.scores.any fun p=>!z0m p.1)=true
    ·rw[if_pos c1] at hc;cases hc
    ·rw[if_neg c1] at hc
     by_cases c2:(x.scores.map (·.2)).Nodup
     ·rw[if_neg (fun h=>h c2)] at hc
      by_cases c3:rises ltC x.scores=true
      ·exact⟨c3,c2,hok.members⟩
      ·rw[if_neg c3] at hc;cases hc
     ·rw[if_pos c2] at hc;cases hc
theorem z8g.small{l:List (Int×ByteArray)}(h:z8g l):∀s∈l,(-9223372036854775808≤s.1∧s.1≤9223372036854775807)∧s.2.size≤281474976710656:=fun s hs=>by
 obtain⟨h1,h2⟩:=h.ok s hs
 unfold z0m at h1
 simp at h1
 omega
theorem zaz{l:List (Int×ByteArray)}(hl:l.length≤1000000)(ht:∀s∈l,(-9223372036854775808≤s.1∧s.1≤9223372036854775807)∧s.2.size≤281474976710656):(zb1 l).Small:=
 ⟨by show -9223372036854775808≤(5:Int)∧(5:Int)≤9223372036854775807;omega,by show(⟨#[]⟩:ByteArray).size≤_;decide,by show 0≤_;omega,by show 0≤_;omega,by show l.length≤_;omega,(fun p hp=>by cases hp),(fun p hp=>by cases hp),ht⟩
theorem zpe{x:Itm}{l:List (Int×ByteArray)}(h:zl2 x l=0):z02 5 x=0∧z45 l=0:=by
 unfold zl2 at h
 by_cases ha:z02 5 x=0
 ·rw[if_neg (by simpa using ha)] at h
  exact⟨ha,h⟩
 ·rw[if_pos ha] at h;exact absurd h ha
theorem zwe{x:Itm}{l:List (Int×ByteArray)}(h:zbk x l=0):zl2 x l=0∧(zc1 x l).length≤24:=by
 unfold zbk at h
 by_cases ha:zl2 x l=0
 ·rw[if_neg (by simpa using ha)] at h
  by_cases hb:24 < (zc1 x l).length
  ·rw[if_pos hb] at h;cases h
  ·exact⟨ha,by omega⟩
 ·rw[if_pos ha] at h;exact absurd h ha
theorem zl3{x:Itm}{l:List (Int×ByteArray)}(h:zl2 x l=0):z8g (zc1 x l):=by
 obtain⟨ha,hs⟩:=zpe h
 exact z8g.fold l (z32 ha).1 (zak hs).2
theorem zg9{l:List (Int×ByteArray)}(hl:l.length≤1000000)(h:z8g l):(ofC l).Small:=by
 unfold ofC
 split
 ·exact z1c 0 (by decide)
 ·exact zaz hl h.small
theorem zjl(x:Itm)(l:List (Int×ByteArray)):(z9i x l).Small:=by
 unfold z9i
 split
 ·rename_i h
  obtain⟨hp,h24⟩:=zwe h
  exact zg9 (by omega) (zl3 hp)
 ·exact z1c 0 (by decide)
theorem zkt{x:Itm}(l:List ByteArray)(h:z02 5 x=0):z8g (z8x x l)∧(z8x x l).length≤24:=by
 obtain⟨h1,h2⟩:=z32 h
 have:=List.length_filter_le (fun p:Int×ByteArray=>!(l.any fun y=>decide (y=p.2))) x.scores
 exact⟨h1.sub List.filter_sublist,by unfold z8x;omega⟩
theorem zga(x:Itm)(l:List ByteArray):(z61 x l).Small:=by
 unfold z61
 split
 ·rename_i h
  have:=zkt l h
  exact zg9 (by omega) this.1
 ·exact z1c 0 (by decide)
def z67(p:Nat→Int×ByteArray→Bool)(l:List (Int×ByteArray)):Nat→List ByteArray
 | 0=>[]
 | k+1=>match l[k]? with
  | some s=>if p k s=true then z67 p l k++[s.2] else z67 p l k
  | none=>z67 p l k
theorem zab{p:Nat→Int×ByteArray→Bool}{l:List (Int×ByteArray)}{k:Nat}{s:Int×ByteArray}(h:l[k]? = some s):z67 p l (k+1)=if p k s=true then z67 p l k++[s.2] else z67 p l k:=by
 rw[z67,h]
theorem zh2(p:Nat→Int×ByteArray→Bool)(l:List (Int×ByteArray)):∀k,(z67 p l k).length≤k
 | 0=>Nat.le_refl _
 | k+1=>by
  have:=zh2 p l k
  unfold z67
  split
  ·split
   ·rw[List.length_append,List.length_singleton];omega
   ·omega
  ·omega
theorem zb7(a b:Int)(l:List (Int×ByteArray)):∀k,k≤l.length→z67 (fun _ s=>decide (a≤s.1)&&decide (s.1≤b)) l k=z6l (l.take k) a b
 | 0,_=>by simp[z67,z6l]
 | k+1,h=>by
  obtain⟨s,hs⟩:∃s,l[k]? = some s:=⟨_,List.getElem?_eq_getElem (by omega)⟩
  rw[zab hs,zb7 a b l k (by omega)]
  unfold z6l
  rw[List.take_add_one,hs,Option.toList_some,List.filter_append,List.map_append]
  cases hc:(decide (a≤s.1)&&decide (s.1≤b)) <;> simp[List.filter_cons,hc]
theorem zcg(a b:Nat)(l:List (Int×ByteArray)):∀k,k≤l.length→z67 (fun i _=>decide (a≤i)&&decide (i < b)) l k=(((l.map (·.2)).take k).take b).drop a
 | 0,_=>by simp[z67]
 | k+1,h=>by
  obtain⟨s,hs⟩:∃s,l[k]? = some s:=⟨_,List.getElem?_eq_getElem (by omega)⟩
  have hs2:(l.map (·.2))[k]? = some s.2:=by rw[List.getElem?_map,hs];rfl
  rw[zab hs,zcg a b l k (by omega)]
  generalize l.map (·.2)=L at *
  have hk:k < L.length:=(List.getElem?_eq_some_iff.1 hs2).1
  have hl:(L.take k).length=k:=by rw[List.length_take];omega
  rw[List.take_add_one,hs2,Option.toList_some]
  by_cases h1:k < b
  ·rw[List.take_of_length_le (l:=L.take k++[s.2]) (by rw[List.length_append,hl,List.length_singleton];omega),List.take_of_length_le (l:=L.take k) (by omega)]
   by_cases h2:a≤k
   ·rw[if_pos (by simp[h1,h2]),List.drop_append_of_le_length (by omega)]
   ·rw[if_neg (by simp[h2]),List.drop_of_length_le (by omega),List.drop_of_length_le (by rw[List.length_append,hl,List.length_singleton];omega)]
  ·rw[if_neg (by simp[h1]),List.take_append_of_le_length (by omega)]
end Go.Proofs.YtamgdmiopinidaaGreatDoor
