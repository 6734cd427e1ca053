/- Contracts that the proof of E3 uses. No condition beyond those in each theorem. -/
import Derived.Test.YtamgdmiopinidaaGreatDoorSlE37
import Derived.ChangeAlike
import Derived.Lib.AppendZeros
import Derived.Lib.AppendZerosOnto
import Derived.Lib.RowBridge
import Derived.Lib.SlicesCompact
import Derived.Maps.RangeWalk
import Derived.Sort.OwnSorted
import Derived.Sort.Walk0
set_option linter.unusedVariables false
set_option linter.unusedSimpArgs false
set_option maxHeartbeats 8000000
set_option maxRecDepth 100000
namespace Go.Proofs.YtamgdmiopinidaaGreatDoor
open Lib (hid)
open Tryz (prog)
theorem zn5:∀a b:List UInt8,Lib.compareBytes a b < 0↔a < b
 | [],[]=>by simp[Lib.compareBytes]
 | _ :: _,[]=>by simp[Lib.compareBytes]
 | [],_ :: _=>by simp[Lib.compareBytes]
 | x :: a,y :: b=>by
  have ih:=zn5 a b
  simp only[Lib.compareBytes,List.cons_lt_cons_iff]
  by_cases h1:x < y
  ·simp[h1]
  ·by_cases h2:y < x
   ·have h3:x≠y:=fun e=>by subst e;exact h1 h2
    simp[h1,h2,h3]
   ·have h3:x=y:=UInt8.le_antisymm (UInt8.not_lt.1 h2) (UInt8.not_lt.1 h1)
    subst h3
    simp[UInt8.lt_irrefl,ih]
theorem za1(a b:ByteArray):z4m a b < 0↔a.data.toList < b.data.toList:=zn5 _ _
theorem zua(a b:ByteArray):Op.bytesLess a.toList b.toList=ltS a b:=by
 rw[bytesLess_eq,Lib.toList_data,Lib.toList_data]
 unfold ltS
 exact decide_eq_decide.2 (za1 a b).symm
def unB(l:List UInt8):ByteArray:=⟨l.toArray⟩
theorem zki(s:ByteArray):unB s.data.toList=s:=rfl
def datas(l:List ByteArray):List (List UInt8):=l.map (·.data.toList)
theorem z1i(l:List ByteArray):(datas l).length=l.length:=by unfold datas;simp
theorem z5n(l:List ByteArray):(datas l).map encStr=z03 l:=by
 unfold datas z03 encStr
 rw[List.map_map]
 rfl
theorem zk3(l:List (List UInt8)):datas (l.map unB)=l:=by
 unfold datas
 rw[List.map_map]
 have:((fun s:ByteArray=>s.data.toList) ∘ unB)=id:=rfl
 rw[this,List.map_id]
def z77(l:List ByteArray):List ByteArray:=((datas l).mergeSort fun x y=>decide (x≤y)).map unB
theorem z3n(l:List ByteArray):(z77 l).length=l.length:=by unfold z77;simp[z1i]
theorem z6c(l:List ByteArray):(z77 l).Perm l:=by
 have h:=((List.mergeSort_perm (datas l) fun x y=>decide (x≤y)).map unB)
 have e:(datas l).map unB=l:=by
  unfold datas
  rw[List.map_map]
  have:(unB ∘ fun s:ByteArray=>s.data.toList)=id:=rfl
  rw[this,List.map_id]
 rw[e] at h
 exact h
theorem zkw(l:List ByteArray):(z77 l).Pairwise fun a b=>¬z4m b a < 0:=by
 unfold z77
 rw[List.pairwise_map]
 have:=List.pairwise_mergeSort (le:=fun x y:List UInt8=>decide (x≤y)) (fun a b c h1 h2=>by simpa using List.le_trans (by simpa using h1) (by simpa using h2)) (fun a b=>by simpa using List.le_total a b) (datas l)
 refine this.imp fun {a b} h=>?_
 rw[za1]
 have h:a≤b:=by simpa using h
 exact List.not_lt.2 h
def zdk(l:List ByteArray):List ByteArray:=(Lib.compact (datas l)).map unB
theorem zk0{zs:List (List UInt8)}{x:List UInt8}:x∈Lib.compact zs↔x∈zs:=by
 unfold Lib.compact Lib.compactUpTo
 constructor
 ·intro h
  obtain⟨i,hi,rfl⟩:=List.mem_map.1 h
  have hi':i < zs.length:=List.mem_range.1 (List.mem_filter.1 hi).1
  simp[getElem!_pos,hi']
 ·intro h
  have:∀(n i:Nat),i≤n→i < zs.length→zs.toArray[i]! ∈ ((List.range zs.length).filter (Lib.keeps zs.toArray)).map (zs.toArray[·]!):=by
   intro n
   induction n with
   | zero=>
    intro i hi hl
    have:i=0:=by omega
    subst this
    exact List.mem_map.2 ⟨0,List.mem_filter.2 ⟨List.mem_range.2 hl,by simp[Lib.keeps]⟩,rfl⟩
   | succ n ih=>
    intro i hi hl
    by_cases hk:Lib.keeps zs.toArray i=true
    ·exact List.mem_map.2 ⟨i,List.mem_filter.2 ⟨List.mem_range.2 hl,hk⟩,rfl⟩
    ·have hk':¬(i=0∨zs.toArray[i]! ≠ zs.toArray[i - 1]!):=by simpa[Lib.keeps] using hk
     have h0:i≠0:=fun e=>hk' (.inl e)
     have he:zs.toArray[i]! = zs.toArray[i - 1]! := Classical.byContradiction fun e=>hk' (.inr e)
     rw[he]
     exact ih (i - 1) (by omega) (by omega)
  obtain⟨i,hi,rfl⟩:=List.getElem_of_mem h
  have:=this i i (Nat.le_refl _) hi
  simpa[getElem!_pos,hi] using this
theorem zw5{zs:List (List UInt8)}(h:zs.Pairwise (·≤·)):(Lib.compact zs).Pairwise (· < ·):=by
 unfold Lib.compact Lib.compactUpTo
 rw[List.pairwise_map]
 have hp:((List.range zs.length).filter (Lib.keeps zs.toArray)).Pairwise (· < ·):=List.Pairwise.filter _ (List.pairwise_lt_range)
 rw[List.pairwise_iff_forall_sublist] at hp ⊢
 intro a b hs
 have hab:=hp hs
 have hm:∀c∈[a,b],c < zs.length∧Lib.keeps zs.toArray c=true:=fun c hc=>by
  have:=List.mem_filter.1 (hs.subset hc)
  exact⟨List.mem_range.1 this.1,this.2⟩
 obtain⟨ha,_⟩:=hm a (by simp)
 obtain⟨hb,hkb⟩:=hm b (by simp)
 have hkb':b=0∨zs.toArray[b]! ≠ zs.toArray[b - 1]! := by simpa[Lib.keeps] using hkb
 have hne:zs.toArray[b]! ≠ zs.toArray[b - 1]! := by
  rcases hkb' with h0|h0
  ·omega
  ·exact h0
 have e:∀i (hi:i < zs.length),zs.toArray[i]! = zs[i]:=fun i hi=>by simp[getElem!_pos,hi]
 rw[e b hb,e (b - 1) (by omega)] at hne
 rw[e a ha,e b hb]
 have pw:=List.pairwise_iff_getElem.1 h
 have h1:zs[a]≤zs[b - 1]'(by omega):=by
  rcases Nat.lt_or_ge a (b - 1) with hl|hl
  ·exact pw a (b - 1) ha (by omega) hl
  ·have:a=b - 1:=by omega
   subst this
   exact List.le_refl _
 have h2:zs[b - 1]'(by omega)≤zs[b]:=pw (b - 1) b (by omega) hb (by omega)
 have h3:zs[b - 1]'(by omega) < zs[b]:=Classical.byContradiction fun hn=>hne (List.le_antisymm (List.not_lt.1 hn) h2)
 exact List.lt_of_le_of_lt h1 h3
def z8e(l:List ByteArray):List ByteArray:=zdk (z77 l)
theorem z81{l:List ByteArray}{s:ByteArray}:s∈z8e l↔s∈l:=by
 unfold z8e zdk
 rw[List.mem_map]
 constructor
 ·rintro⟨x,hx,rfl⟩
  have:=zk0.1 hx
  unfold datas at this
  obtain⟨t,ht,rfl⟩:=List.mem_map.1 this
  exact(z6c l).mem_iff.1 ht
 ·intro h
  exact⟨s.data.toList,zk0.2 (List.mem_map.2 ⟨s,(z6c l).mem_iff.2 h,rfl⟩),rfl⟩
theorem zec(a b c:ByteArray)(h1:ltS a b=true)(h2:ltS b c=true):ltS a c=true:=
 decide_eq_true (z55 (of_decide_eq_true h1) (of_decide_eq_true h2))
theorem z82(l:List ByteArray):rises ltS (z8e l)=true:=by
 refine z3i ?_
 unfold z8e zdk
 rw[List.pairwise_map]
 have h:(datas (z77 l)).Pairwise (·≤·):=by
  unfold datas
  rw[List.pairwise_map]
  refine(zkw l).imp fun {a b} h=>?_
  rw[za1] at h
  exact List.not_lt.1 h
 refine(zw5 h).imp fun {a b} h=>decide_eq_true ?_
 rw[za1]
 exact h
theorem zcr:∀ {a b:List ByteArray},rises ltS a=true→rises ltS b=true→(∀s,s∈a↔s∈b)→a=b:=by
 intro a b ha hb h
 have irr:∀s:ByteArray,ltS s s=false:=fun s=>decide_eq_false (by rw[z4l];omega)
 have asy:∀s t:ByteArray,ltS s t=true→ltS t s=true→False:=fun s t h1 h2=>by
  have:=zec s t s h1 h2
  rw[irr] at this
  cases this
 have pa:=z2n zec ha
 have pb:=z2n zec hb
 clear ha hb
 induction a generalizing b with
 | nil=>
  cases b with
  | nil=>rfl
  | cons y b=>exact absurd ((h y).2 (by simp)) (by simp)
 | cons x a ih=>
  cases b with
  | nil=>exact absurd ((h x).1 (by simp)) (by simp)
  | cons y b=>
   have pa':=List.pairwise_cons.1 pa
   have pb':=List.pairwise_cons.1 pb
   have exy:x=y:=by
    rcases List.mem_cons.1 ((h x).1 (by simp)) with e|hx
    ·exact e
    ·rcases List.mem_cons.1 ((h y).2 (by simp)) with e|hy
     ·exact e.symm
     ·exact(asy x y (pa'.1 y hy) (pb'.1 x hx)).elim
   subst exy
   congr 1
   refine ih (fun s=>?_) pa'.2 pb'.2
   constructor
   ·intro hs
    rcases List.mem_cons.1 ((h s).1 (List.mem_cons_of_mem _ hs)) with e|h1
    ·subst e
     have:=pa'.1 s hs
     rw[irr] at this
     cases this
    ·exact h1
   ·intro hs
    rcases List.mem_cons.1 ((h s).2 (List.mem_cons_of_mem _ hs)) with e|h1
    ·subst e
     have:=pb'.1 s hs
     rw[irr] at this
     cases this
    ·exact h1
theorem zem{l:List ByteArray}(h:rises ltS l=true):z8e l=l:=zcr (z82 l) h (fun s=>z81)
theorem za3(l:List ByteArray):(z8e l).length≤l.length:=by
 unfold z8e zdk
 rw[List.length_map]
 have h1:=Lib.compact_length_le (datas (z77 l))
 rw[z1i,z3n] at h1
 exact h1
theorem znq{a l:List ByteArray}(ha:rises ltS a=true)(h:∀s∈a,s∈l):a.length≤l.length:=by
 have e:a=z8e (l.filter fun s=>z4z a s):=zcr ha (z82 _) (fun s=>by
  rw[z81,List.mem_filter]
  constructor
  ·intro hs;exact⟨h s hs,z2h.2 hs⟩
  ·intro hs;exact z2h.1 hs.2)
 have h1:=za3 (l.filter fun s=>z4z a s)
 rw[←e] at h1
 exact Nat.le_trans h1 (List.length_filter_le _ _)
theorem zgz{l:List ByteArray}(p:ByteArray→Bool)(h:rises ltS l=true):rises ltS (l.filter p)=true:=
 z3i ((z2n zec h).filter p)
end Go.Proofs.YtamgdmiopinidaaGreatDoor
namespace Go.Proofs.YtamgdmiopinidaaGreatDoor
open Lib (hid)
open Tryz (prog)
open Go.RowKit
def kS(s:ByteArray):Lit:=.string s.data.toList
theorem zqp{a b:ByteArray}(h:kS a=kS b):a=b:=by
 have e:=Lit.string.inj h
 rw[←zki a,←zki b,e]
theorem zu0(s:ByteArray):WideAt.IsKeyLit (kS s):=by unfold kS WideAt.IsKeyLit;trivial
def nI(n:Nat):DataW Unit:=.lit (.int .i64 n)
def zm9(ts:List ByteArray)(s:ByteArray):Nat:=(ts.filter fun t=>decide (t=s)).length
theorem z8i(a b:List ByteArray)(s:ByteArray):zm9 (a++b) s=zm9 a s+zm9 b s:=by unfold zm9;simp
theorem zky(t s:ByteArray):zm9 [t] s=if t=s then 1 else 0:=by
 unfold zm9
 by_cases e:t=s <;> simp[e]
theorem zvz(ts:List ByteArray)(s:ByteArray):zm9 ts s≤ts.length:=List.length_filter_le _ _
theorem zj9(a b:List ByteArray)(s:ByteArray):z4z (a++b) s=(z4z a s||z4z b s):=by
 rw[Bool.eq_iff_iff,Bool.or_eq_true,z2h,z2h,z2h,List.mem_append]
structure Cnt(D:DataW Unit)(ts:List ByteArray):Prop where
 at_:∀s,D.atKey (kS s) (nI 0)=nI (zm9 ts s)
 has:∀s,Maps.has D (kS s)=z4z ts s
 isMap:Maps.IsMap D
theorem Cnt.start:Cnt (.map []) []:=⟨fun s=>rfl,fun s=>rfl,Maps.isMap_empty⟩
theorem Cnt.put{D:DataW Unit}{ts:List ByteArray}(h:Cnt D ts)(s:ByteArray):Cnt (D.put (kS s) (nI (zm9 ts s+1))) (ts++[s]):=by
 refine⟨fun t=>?_,fun t=>?_,h.isMap.put _ _⟩
 ·rw[z8i,zky]
  by_cases e:s=t
  ·subst e
   rw[Maps.atKey_put_same h.isMap (zu0 s),if_pos rfl]
  ·rw[Maps.atKey_put_other (fun e'=>e (zqp e').symm),h.at_,if_neg e,Nat.add_zero]
 ·by_cases e:t=s
  ·subst e
   rw[Maps.has_put_same h.isMap (zu0 t)]
   exact(z2h.2 (by simp)).symm
  ·rw[Maps.has_put_other (fun e'=>e (zqp e')),h.has,Bool.eq_iff_iff,z2h,z2h]
   simp[e]
def zwr(l:List Itm)(s:ByteArray):Nat:=(l.filter fun x=>z4z x.list s).length
def zbp(l:List Itm):List ByteArray:=l.flatMap (·.list)
theorem zj0{l:List ByteArray}(h:rises ltS l=true):l.Nodup:=by
 refine(z2n zec h).imp fun {a b} h=>?_
 rintro rfl
 have:=of_decide_eq_true h
 rw[z4l] at this
 omega
theorem zcq:∀ {l:List ByteArray},l.Nodup→∀s,zm9 l s=if z4z l s=true then 1 else 0
 | [],_,s=>rfl
 | t :: l,h,s=>by
  have h':=List.nodup_cons.1 h
  have ih:=zcq h'.2 s
  rw[show t :: l=[t]++l from rfl,z8i,zky,zj9,ih]
  by_cases e:t=s
  ·subst e
   have h1:z4z [t] t=true:=z2h.2 (by simp)
   have h2:¬z4z l t=true:=fun hm=>h'.1 (z2h.1 hm)
   simp[h1,h2]
  ·have h1:z4z [t] s=false:=by
    rcases hh:z4z [t] s with _|_
    ·rfl
    ·exact absurd (show s=t by simpa using z2h.1 hh) (fun h=>e h.symm)
   simp[h1,e]
theorem zia{l:List ByteArray}(h:rises ltS l=true)(s:ByteArray):zm9 l s=if z4z l s=true then 1 else 0:=zcq (zj0 h) s
theorem zgx:∀ {l:List Itm},(∀x∈l,rises ltS x.list=true)→∀s,zm9 (zbp l) s=zwr l s
 | [],_,s=>rfl
 | x :: l,h,s=>by
  have ih:=zgx (l:=l) (fun y hy=>h y (by simp[hy])) s
  unfold zbp at ih ⊢
  unfold zwr at ih ⊢
  rw[List.flatMap_cons,z8i,ih,zia (h x (by simp)),List.filter_cons]
  split
  ·rw[List.length_cons];omega
  ·omega
def z2s(k:Int):List Itm→Int
 | []=>0
 | x :: l=>if z02 k x≠0 then z02 k x else z2s k l
theorem zbb{k:Int}:∀ {l:List Itm},z2s k l=0→∀x∈l,z02 k x=0
 | [],_,x,hx=>by cases hx
 | y :: l,h,x,hx=>by
  unfold z2s at h
  by_cases e:z02 k y=0
  ·rw[if_neg (by simpa using e)] at h
   rcases List.mem_cons.1 hx with rfl|hx
   ·exact e
   ·exact zbb h x hx
  ·rw[if_pos e] at h
   exact absurd h e
theorem zb3{k:Int}:∀ {l:List Itm} {i:Nat} {x:Itm},(∀y∈l.take i,z02 k y=0)→l[i]? = some x→z02 k x≠0→z2s k l=z02 k x
 | [],i,x,_,h,_=>by simp at h
 | y :: l,0,x,_,h,hx=>by
  simp at h
  subst h
  unfold z2s
  rw[if_pos hx]
 | y :: l,i+1,x,hp,h,hx=>by
  have hy:z02 k y=0:=hp y (by simp)
  unfold z2s
  rw[if_neg (by simpa using hy)]
  exact zb3 (i:=i) (fun z hz=>hp z (by rw[List.take_succ_cons];exact List.mem_cons_of_mem _ hz)) (by simpa using h) hx
theorem z98{k:Int}:∀ {l:List Itm},(∀y∈l,z02 k y=0)→z2s k l=0
 | [],_=>rfl
 | y :: l,h=>by
  unfold z2s
  rw[if_neg (by simpa using h y (by simp))]
  exact z98 fun z hz=>h z (by simp[hz])
def z0u(l:List Itm):Int:=if l.length=0 then 1 else z2s 3 l
def zty:List Itm→List ByteArray
 | []=>[]
 | x :: _=>x.list
def pick(p:Nat→Bool→Bool)(l:List Itm)(s:ByteArray):Bool:=p (zwr l s) (z4z (zty l) s)
def z2b(p:Nat→Bool→Bool)(l:List Itm):List ByteArray:=if z0u l=0 then z8e ((zbp l).filter (pick p l)) else []
structure Coll(ts:List ByteArray)(p:ByteArray→Bool)(left:Lit→Bool)(d:List ByteArray):Prop where
 nodup:d.Nodup
 mem:∀s,s∈d↔s∈ts∧left (kS s)=false∧p s=true
theorem Coll.start{D:DataW Unit}{ts:List ByteArray}{p:ByteArray→Bool}(h:Cnt D ts):Coll ts p (Maps.has D) []:=
 ⟨List.nodup_nil,fun s=>⟨(fun h=>by cases h),(fun⟨h1,h2,_⟩=>by rw[h.has,z2h.2 h1] at h2;cases h2)⟩⟩
theorem zl7{left:Lit→Bool}{x s:ByteArray}:(left (kS s)&&!(kS s).sameKey (kS x))=false↔left (kS s)=false∨s=x:=by
 by_cases e:s=x
 ·subst e
  have:(kS s).sameKey (kS s)=true:=by unfold kS Lit.sameKey;simp
  simp[this]
 ·have:(kS s).sameKey (kS x)=false:=Maps.sameKey_ne (fun h=>e (zqp h))
  simp[this,e]
theorem Coll.take{ts:List ByteArray}{p:ByteArray→Bool}{left:Lit→Bool}{d:List ByteArray}(h:Coll ts p left d){x:ByteArray}(hx:x∈ts)(hl:left (kS x)=true)(hp:p x=true):Coll ts p (fun z=>left z&&!z.sameKey (kS x)) (d++[x]):=by
 have hn:x∉d:=fun hm=>by have:=((h.mem x).1 hm).2.1;rw[hl] at this;cases this
 refine⟨List.nodup_append.2 ⟨h.nodup,by simp,fun a ha b hb=>?_⟩,fun s=>?_⟩
 ·simp at hb
  subst hb
  rintro rfl
  exact hn ha
 ·show _↔s∈ts∧(left (kS s)&&!(kS s).sameKey (kS x))=false∧_
  rw[zl7,List.mem_append,h.mem]
  constructor
  ·rintro(⟨h1,h2,h3⟩|h1)
   ·exact⟨h1,.inl h2,h3⟩
   ·simp at h1;subst h1;exact⟨hx,.inr rfl,hp⟩
  ·rintro⟨h1,h2|rfl,h3⟩
   ·exact .inl ⟨h1,h2,h3⟩
   ·exact .inr (by simp)
theorem Coll.leave{ts:List ByteArray}{p:ByteArray→Bool}{left:Lit→Bool}{d:List ByteArray}(h:Coll ts p left d){x:ByteArray}(hp:p x=false):Coll ts p (fun z=>left z&&!z.sameKey (kS x)) d:=by
 refine⟨h.nodup,fun s=>?_⟩
 show _↔s∈ts∧(left (kS s)&&!(kS s).sameKey (kS x))=false∧_
 rw[zl7,h.mem]
 constructor
 ·rintro⟨h1,h2,h3⟩
  exact⟨h1,.inl h2,h3⟩
 ·rintro⟨h1,h2|rfl,h3⟩
  ·exact⟨h1,h2,h3⟩
  ·rw[hp] at h3;cases h3
theorem zd6{d:List ByteArray}(h:d.Nodup):rises ltS (z77 d)=true:=by
 refine z3i ?_
 have h2:(z77 d).Nodup:=(z6c d).nodup_iff.2 h
 have:=(zkw d).and h2
 refine this.imp fun {a b} ⟨h1,hne⟩=>decide_eq_true ?_
 rcases Int.lt_trichotomy (z4m a b) 0 with h3|h3|h3
 ·exact h3
 ·exact absurd (z8s h3) hne
 ·exact absurd (by have:=z69 a b;omega) h1
theorem Coll.done{ts:List ByteArray}{p:ByteArray→Bool}{left:Lit→Bool}{d:List ByteArray}(h:Coll ts p left d)(hl:∀k,left k=false):z77 d=z8e (ts.filter p):=by
 refine zcr (zd6 h.nodup) (z82 _) (fun s=>?_)
 rw[(z6c d).mem_iff,h.mem,z81,List.mem_filter]
 exact⟨fun⟨a,_,c⟩=>⟨a,c⟩,fun⟨a,c⟩=>⟨a,hl _,c⟩⟩
theorem Coll.le{ts:List ByteArray}{p:ByteArray→Bool}{left:Lit→Bool}{d:List ByteArray}(h:Coll ts p left d):d.length≤ts.length:=by
 have:=zd6 h.nodup
 have h2:=znq this (l:=ts) (fun s hs=>((h.mem s).1 ((z6c d).mem_iff.1 hs)).1)
 rw[z3n] at h2
 exact h2
def ztk(l:List ByteArray)(base:Nat)(v:Value)(w:World)(e:Ending)(w':World):Prop:=e=.returned (.tuple #[])∧w'.ownsRow base 9 1 v l.length (z03 (z77 l))∧w.grownBy w' v.ownBlock
def zse(l:List ByteArray)(base:Nat)(v:Value)(w:World)(e:Ending)(w':World):Prop:=∃v',e=.returned v'∧w'.ownsRow base 9 1 v' (zdk l).length (z03 (zdk l))∧w.grownBy w' v.ownBlock∧v'.ownBlock=v.ownBlock
theorem zgh(l:List ByteArray)(base:Nat)(v:Value)(w:World)(hl:l.length≤281474976710656)(h:w.ownsRow base 9 1 v l.length (z03 l)) :
  Calls prog 275 #[v] w (ztk l base v w):=by
 obtain⟨A,c,rfl,hA,hc,hm⟩:=z06 h
 rcases Nat.eq_zero_or_pos l.length with h0|h0
 ·have e:l=[]:=List.eq_nil_of_length_eq_zero h0
  subst e
  refine(Tryz.slices_Sort_string_none A c w).mono ?_
  rintro e w' ⟨rfl,rfl⟩
  exact⟨rfl,by rw[show z77 []=[] from List.eq_nil_of_length_eq_zero (z3n [])];exact h,z7y _ _⟩
 ·rcases h.2 with⟨_,hn⟩|⟨g,cap,cur,hv,hb,hg,h1,h2,h3,h4⟩
  ·omega
  ·cases hv
   have hH:Sort.Holds encStr w g 0 (datas l).toArray:=holds_of_block hg (by rw[z1i,z5n];simpa using h4)
   have:=Tryz.slices_Sort_string g 0 c (datas l) w hH (Array.getElem?_eq_some_iff.1 hg).1 (by rw[z1i];omega)
   rw[z1i] at this
   refine this.mono ?_
   rintro e w' ⟨rfl,n,os,rfl⟩
   refine⟨rfl,?_,grownBy_sorted _⟩
   have h5:=ownsRow_sorted (base:=base) (n:=n) (os:=os) (ss:=datas l) (ts:=(datas l).mergeSort fun x y=>decide (x≤y)) (by simp) hb hg (by rw[z1i];exact h1) h2 h3
   rw[z1i] at h5
   have e:((datas l).mergeSort fun x y=>decide (x≤y)).map encStr=z03 (z77 l):=by
    rw[←z5n]
    unfold z77
    rw[zk3]
   rw[e] at h5
   exact h5
theorem znp(l:List ByteArray)(base:Nat)(v:Value)(w:World)(hl:l.length≤281474976710656)(h:w.ownsRow base 9 1 v l.length (z03 l)) :
  Calls prog 276 #[v] w (zse l base v w):=by
 obtain⟨A,c,rfl,hA,hc,hm⟩:=z06 h
 rcases Nat.eq_zero_or_pos l.length with h0|h0
 ·have e:l=[]:=List.eq_nil_of_length_eq_zero h0
  subst e
  refine(Tryz.slices_Compact_string_empty A c w).mono ?_
  rintro e w' ⟨rfl,rfl⟩
  exact⟨_,rfl,by rw[show zdk []=[] from rfl];exact h,z7y _ _,rfl⟩
 ·rcases h.2 with⟨_,hn⟩|⟨g,cap,cur,hv,hb,hg,h1,h2,h3,h4⟩
  ·omega
  ·cases hv
   have hH:Sort.Holds encStr w g 0 (datas l).toArray:=holds_of_block hg (by rw[z1i,z5n];simpa using h4)
   have:=Tryz.slices_Compact_string g 0 c (datas l) w hH (by rw[z1i];omega) (by rw[z1i];omega)
   rw[z1i] at this
   refine this.mono ?_
   rintro e w' ⟨rfl,q,rfl⟩
   have hle:(Lib.compact (datas l)).length≤l.length:=by have:=Lib.compact_length_le (datas l);rw[z1i] at this;exact this
   have hcl:(zdk l).length=(Lib.compact (datas l)).length:=by unfold zdk;simp
   obtain⟨ts,hts⟩:∃ts,ts=Lib.compact (datas l)++List.replicate (l.length - (Lib.compact (datas l)).length) []:=⟨_,rfl⟩
   have htl:ts.length=l.length:=by rw[hts,List.length_append,List.length_replicate];omega
   have hB:=heap_sorted (n:=q) (os:=#[]) ts.toArray hg
   have hG:=grownBy_sorted (w:=w) (g:=g) (n:=q) (os:=#[]) ts.toArray
   rw[Sort.grow_empty] at hB hG
   rw[←hts]
   refine⟨_,rfl,?_,hG,rfl⟩
   rw[hcl]
   refine⟨by rw[z6k,hcl,Nat.mul_one],.inr ⟨g,c,_,rfl,hb,hB,by omega,h2,by simp[Sort.putCells,h3],?_⟩⟩
   have hk:=take_putCells cur ts (by omega)
   rw[Nat.mul_one]
   have e1:∀(L:List Value),L.take (Lib.compact (datas l)).length=(L.take ts.length).take (Lib.compact (datas l)).length:=fun L=>by
    rw[List.take_take,Nat.min_eq_left (by omega)]
   rw[e1,hk,hts,List.map_append,List.take_left' (by simp)]
   rw[←z5n]
   unfold zdk
   rw[zk3]
def zv1(b:Bool)(w:World)(e:Ending)(w':World):Prop:=(∃i:Int,e=.returned (.tuple #[.int .i64 i,.bool b]))∧Fr [] w w'
theorem zuh{l:List ByteArray}{s:ByteArray}(hr:rises ltS l=true):z5r id l s=z4z l s:=by
 rw[Bool.eq_iff_iff,z36,z2h]
 constructor
 ·rintro⟨q,hq,rfl⟩
  exact List.mem_of_getElem? hq
 ·intro h
  obtain⟨k,hk⟩:=List.getElem?_of_mem h
  have:=zee id (show rises (ltK id) l=true from hr) hk
  exact⟨s,by rw[show z1z id l s=k from this];exact hk,rfl⟩
theorem zri(l:List ByteArray)(s:ByteArray)(A:Option Addr)(c B:Nat)(w:World)(hr:rises ltS l=true)(hl:l.length≤281474976710656)(hB:B≤w.heap.size)(h:Sl w B 1 (.slice A l.length c) l.length (z03 l)) :
  Calls prog 278 #[.slice A l.length c,.string s] w (zv1 (z4z l s) w):=by
 have HS:=hid h
 have hlow:=z5b id l s
 have HR:=hid (show rises (ltK id) l=true from hr)
 have EH:=hid (zuh (s:=s) hr)
 clear h hr
 go_enter Tryz.func278,Tryz.ntmps278
 go_wp2
 go_loopg [7,8] l.length (fun g s7 s8 wr=>∃(lo hi:Nat),g=hi - lo∧s7=.int .i64 lo∧s8=.int .i64 hi∧lo≤z1z id l s∧z1z id l s≤hi∧hi≤l.length∧Fr [] w wr)
 case atStart=>exact⟨0,l.length,rfl,rfl,rfl,Nat.zero_le _,hlow,Nat.le_refl _,Fr.refl _ _⟩
 case round=>
  obtain⟨lo,hi,rfl,rfl,rfl,h1,h2,h3,hf⟩:=hrel
  have HF:=hid hf
  clear hf
  by_cases hlt:lo < hi
  ·obtain⟨m,hm⟩:∃m,m=(lo+hi) / 2:=⟨_,rfl⟩
   have hml:m < l.length:=by omega
   obtain⟨b,off,rfl,hb,hc,hmx,hcell⟩:=HS.out.at_ (by omega)
   obtain⟨q,hq⟩:∃q,l[m]? = some q:=⟨_,List.getElem?_eq_getElem hml⟩
   have c1:=HF.out.cell (show w.cell? ⟨b,off+m,none⟩=some (.string q) from hcell _ _ (z15 l m q hq)) (by simp)
   have hmi:((lo:Int)+(hi:Int)) / 2=(m:Int):=by omega
   have hM:=hid hm
   have hnew:(ltS q s=true→m < z1z id l s)∧(ltS q s=false→z1z id l s≤m):=⟨fun h=>by
    rcases Nat.lt_or_ge m (z1z id l s) with h'|h'
    ·exact h'
    ·exact absurd (of_decide_eq_true h) (zev id HR.out h' hq),fun h=>by
    rcases Nat.lt_or_ge m (z1z id l s) with h'|h'
    ·exact absurd (z7g id h' hq) (of_decide_eq_false h)
    ·exact h'⟩
   have HN:=hid hnew
   clear hcell hq hnew hm
   by_cases ho:ltS q s=true
   ·have hn:=HN.out.1 ho
    have q1:Op.bytesLess q.toList s.toList=true:=(zua q s).trans ho
    clear ho HN
    go_wp2
    clear hmi
    go_roundg (hi - (m+1))
    case measure=>have:=hM.out;omega
    case rel=>exact⟨m+1,hi,rfl,by go_num,rfl,by omega,h2,h3,HF.out⟩
   ·have ho:ltS q s=false:=by simpa using ho
    have hn:=HN.out.2 ho
    have q1:Op.bytesLess q.toList s.toList=false:=(zua q s).trans ho
    clear ho HN
    go_wp2
    clear hmi
    go_roundg (m - lo)
    case measure=>have:=hM.out;omega
    case rel=>exact⟨lo,m,rfl,rfl,rfl,h1,hn,by omega,HF.out⟩
  ·obtain rfl:hi=lo:=by omega
   obtain⟨lw,hlw⟩:∃lw,lw=z1z id l s:=⟨_,rfl⟩
   obtain rfl:hi=lw:=by omega
   have HL:=hid hlw
   by_cases hn:hi < l.length
   ·obtain⟨b,off,rfl,hb,hc,hmx,hcell⟩:=HS.out.at_ (by omega)
    obtain⟨q,hq⟩:∃q,l[hi]? = some q:=⟨_,List.getElem?_eq_getElem hn⟩
    have c1:=HF.out.cell (show w.cell? ⟨b,off+hi,none⟩=some (.string q) from hcell _ _ (z15 l hi q hq)) (by simp)
    have HH:=hid (show z4z l s=decide (q=s) from by
     rw[←EH.out]
     unfold z5r
     rw[←hlw,hq]
     refine decide_eq_decide.2 ⟨fun h=>z8s h,fun h=>?_⟩
     rw[h]
     exact z4l _)
    clear hcell hq hlw h1 h2 EH
    by_cases ho:q=s
    ·have q1:(q.toList==s.toList)=true:=by have:=eqB q s;rw[decide_eq_true ho] at this;exact this
     have HH2:=hid (HH.out.trans (decide_eq_true ho))
     clear HH ho
     go_wp2
     go_ret2
     rw[HH2.out]
     exact⟨⟨_,rfl⟩,HF.out⟩
    ·have q1:(q.toList==s.toList)=false:=neqB' ho
     have HH2:=hid (HH.out.trans (decide_eq_false ho))
     clear HH ho
     go_wp2
     go_ret2
     rw[HH2.out]
     exact⟨⟨_,rfl⟩,HF.out⟩
   ·have HH2:=hid (show z4z l s=false from by
     rw[←EH.out]
     unfold z5r
     rw[←hlw,List.getElem?_eq_none (by omega)])
    clear EH hlw h1 h2
    go_wp2
    go_ret2
    rw[HH2.out]
    exact⟨⟨_,rfl⟩,HF.out⟩
theorem ze4(l:List ByteArray)(s:ByteArray)(A:Option Addr)(c B:Nat)(w:World)(hr:rises ltS l=true)(hl:l.length≤281474976710656)(hB:B≤w.heap.size)(h:Sl w B 1 (.slice A l.length c) l.length (z03 l)) :
  Calls prog 236 #[.slice A l.length c,.string s] w fun e w'=>e=.returned (.bool (z4z l s))∧Fr [] w w':=by
 have I:=hid (zri l s A c B w hr hl hB h)
 clear h
 go_enter Tryz.func236,Tryz.ntmps236
 go_wp2_with fail
 refine I.out.mono ?_
 rintro e w1 ⟨⟨i,rfl⟩,h1⟩
 go_wp2
 go_ret
 exact⟨rfl,h1⟩
theorem zkl(l:List ByteArray)(A:Option Addr)(c:Nat)(w:World)(B:Nat)(hl:l.length≤281474976710656)(hB:B≤w.heap.size)(h:Sl w B 1 (.slice A l.length c) l.length (z03 l)) :
  Calls prog 225 #[.slice A l.length c] w fun e w'=>e=.returned (.int .i64 (z13 l))∧Fr [] w w':=by
 have C:=hid (zl1 l A c B w hl hB h)
 unfold z13
 generalize l.any z40=b at *
 clear h
 by_cases hm:l.length=0
 ·rw[if_pos hm]
  have q:((l.length:Int)==0)=true:=by simp[hm]
  go_enter Tryz.func225,Tryz.ntmps225
  go_wp2
  go_ret
  exact⟨rfl,Fr.refl [] w⟩
 ·rw[if_neg hm]
  have q:((l.length:Int)==0)=false:=beq_eq_false_iff_ne.2 (by omega)
  clear hm
  cases b
  ·go_enter Tryz.func225,Tryz.ntmps225
   go_wp2_with fail
   refine C.out.mono ?_
   rintro e w1 ⟨rfl,f1⟩
   go_wp2
   go_ret
   exact⟨rfl,f1⟩
  ·go_enter Tryz.func225,Tryz.ntmps225
   go_wp2_with fail
   refine C.out.mono ?_
   rintro e w1 ⟨rfl,f1⟩
   go_wp2
   go_ret
   exact⟨rfl,f1⟩
theorem zn4(n:Nat)(w:World)(hn:n * 16≤140737488355328) :
  Calls prog 273 #[.slice none 0 0,.int .i64 n] w (z7h 9 1 0 [] w):=by
 obtain⟨i0,hi,hz0,hz1,hz2⟩:=info_parts z3o
 by_cases h0:n=0
 ·subst h0
  go_enter Tryz.func273,Tryz.ntmps273
  go_wp2
  go_ret
  exact⟨_,rfl,World.ownsRow_nil _ _ _ _,Fr.refl [] w⟩
 ·have h4:(n:Int) > 0:=by omega
  have hold:(Builtin.firstCells i0.size 0 (.slice none 0 0)).run prog w.drew=.ok ([]:List Value).toArray w.drew:=run_firstCells_none w.drew i0.size 0 0 0
  have hrz:∀ty,(Builtin.append_ #[24,3] ty #[.slice none 0 0,.int .i64 (n:Int)]).run prog w=.ok (.slice (some ⟨w.heap.size,0,none⟩) (0+n) (grownCap w (0+n) 0 9)) (w.drew.alloc (.cells (([]:List Value).toArray++Builtin.zeroCells (Value.string ⟨#[]⟩).cells n++Builtin.zeroCells (Value.string ⟨#[]⟩).cells (grownCap w (0+n) 0 9 - (0+n))) 9)):=fun ty=>
   Lib.run_append_grow_zeros w 24 3 ty 9 i0 _ .i64 .i64 Tryz.underlying24 Tryz.underlying3 hi hz0 none 0 0 [] hold n (by omega) (by omega) (by omega) (by omega) (by rw[hz2];omega) (by have:=growslice_fits (need:=0+n) (old:=0) (bytes:=i0.bytes) (by omega) (by rw[hz2];omega);exact this)
  have hG:grownCap w (0+n) 0 9≤maxLen:=grownCap_le_maxLen w _ _ _ (by unfold maxLen;omega)
  have hGe:0+n≤grownCap w (0+n) 0 9:=grownCap_ge w _ _ _
  generalize grownCap w (0+n) 0 9=G at *
  have hO:(w.alloc (.cells (Builtin.zeroCells #[Value.string ⟨#[]⟩] n++Builtin.zeroCells #[Value.string ⟨#[]⟩] (G - n)) 9)).drew.ownsRow w.heap.size 9 1 (.slice (some ⟨w.heap.size,0,none⟩) 0 G) 0 []:=
   World.ownsRow_made (base:=w.heap.size) (e:=9) (size:=1) w (Builtin.zeroCells #[Value.string ⟨#[]⟩] n++Builtin.zeroCells #[Value.string ⟨#[]⟩] (G - n)) G (Nat.le_refl _) hG (by simp[Builtin.zeroCells];omega)
  have HO:=hid hO
  have hG2:G≤9223372036854775807:=by unfold maxLen at hG;omega
  clear hO hG h0 hold
  go_enter Tryz.func273,Tryz.ntmps273
  go_wp2_with (at_builtin;refine Lib.wpList_append_run _ rfl _ _ _ _ rfl _ _ rfl rfl _ _ (hrz _) ?_)
  go_ret
  exact⟨_,rfl,HO.out,((Fr.refl [] w).drew).alloc _⟩
def z58(a b:List ByteArray)(k:Nat):List ByteArray:=if k=0 then [] else if k=1 then a else a++b
theorem z62(a b:List ByteArray)(v1 v2:Value)(g c:Nat)(w:World)(B:Nat)(ha:a.length≤256)(hb:b.length≤8796093021952)(hc:2≤c)(hc2:c≤1000)(hB:B≤w.heap.size)(h1:Sl w B 1 v1 a.length (z03 a))(h2:Sl w B 1 v2 b.length (z03 b))
  (g0:w.cell? ⟨g,0,none⟩=some v1) (g1:w.cell? ⟨g,1,none⟩=some v2) :
  Calls prog 226 #[.slice (some ⟨g,0,none⟩) 2 c] w (z7h 9 1 (a++b).length (z03 (a++b)) w):=by
 obtain⟨i0,hi,hz0,hz1,hz2⟩:=info_parts z3o
 obtain⟨A1,c1,rfl,_⟩:=id h1
 obtain⟨A2,c2,rfl,_⟩:=id h2
 have H1:=hid h1
 have H2:=hid h2
 have G0:=hid g0
 have G1:=hid g1
 have hgl:g < w.heap.size:=World.block_lt_of_cell? w _ g0
 clear h1 h2
 go_enter Tryz.func226,Tryz.ntmps226
 go_wp2
 go_loopg [3,11] 2 (fun k s i wr=>∃(m:Nat),k=2 - m∧m≤2∧i=.int .i64 m∧s=.int .i64 ((z58 a b m).length:Nat)∧w=wr)
 case atStart=>exact⟨0,rfl,by omega,rfl,rfl,rfl⟩
 case round=>
  obtain⟨m,rfl,hm,rfl,rfl,rfl⟩:=hrel
  rcases(show m=0∨m=1∨m=2 by omega) with rfl|rfl|rfl
  ·rw[show(z58 a b 0).length=0 from rfl]
   go_wp2
   go_roundg (2 - (0+1))
   case measure=>omega
   case rel=>exact⟨1,rfl,by omega,by simp,by simp[z58],rfl⟩
  ·rw[show(z58 a b 1).length=a.length from rfl]
   go_wp2
   go_roundg (2 - (1+1))
   case measure=>omega
   case rel=>exact⟨2,rfl,by omega,by simp,by simp[z58],rfl⟩
  obtain⟨N,hN⟩:∃N,N=(z58 a b 2).length:=⟨_,rfl⟩
  rw[←hN]
  have hab:N≤8796093022208:=by rw[hN];simp[z58];omega
  clear g0 g1 hN
  go_wp2_with fail
  refine(zn4 N _ (by omega)).mono ?_
  rintro e w1 ⟨v,rfl,ho,hf⟩
  have HO:=hid ho
  have HF:=hid hf
  have hz:=hf.size
  obtain⟨Av,cv,rfl,-⟩:=z06 ho
  clear ho hf
  go_wp2
  go_loopg [6,27] 2 (fun k v i wr=>∃(m:Nat),k=2 - m∧m≤2∧i=.int .i64 m∧wr.ownsRow w.heap.size 9 1 v (z58 a b m).length (z03 (z58 a b m))∧Fr [] w wr)
  case atStart=>exact⟨0,rfl,by omega,rfl,HO.out,HF.out⟩
  case round=>
  obtain⟨m,rfl,hm,rfl,ho,hf⟩:=hrel
  have hzr:=hf.size
  have HF1:=hid hf
  have HO1:=hid ho
  obtain⟨Am,cm,rfl,-⟩:=z06 ho
  clear ho hf
  rcases(show m=0∨m=1∨m=2 by omega) with rfl|rfl|rfl
  ·have x1:wr.cell? ⟨g,0,none⟩=some (.slice A1 a.length c1):=HF1.out.cell G0.out (by simp)
   go_wp2_with (at_builtin;refine z0i _ rfl _ _ 24 rfl w.heap.size 9 i0 _ 1 16 Tryz.underlying24 hi hz0 hz1 hz2 rfl (by decide) _ _ _ rfl HO1.out B _ a.length (z03 a) rfl (H1.out.fr HF1.out hB (by simp)) (z3f a) ?c1 ?c2 ?c3 ?_)
   case c1=>show 0+a.length≤_;unfold maxLen;omega
   case c2=>show(0+a.length) * 16≤_;omega
   case c3=>omega
   intro v' w2 hown' hgrow hat
   have HO2:=hid hown'
   have HF2:=hid (HF1.out.grown hgrow (fun k hk=>.inr (HO1.out.lt k hk).1))
   clear hown' hgrow hat x1
   go_wp2
   go_roundg (2 - (0+1))
   case measure=>omega
   case rel=>exact⟨1,rfl,by omega,by simp,by have:=HO2.out;simpa[z58,z03] using this,HF2.out⟩
  ·have x1:wr.cell? ⟨g,1,none⟩=some (.slice A2 b.length c2):=HF1.out.cell G1.out (by simp)
   go_wp2_with (at_builtin;refine z0i _ rfl _ _ 24 rfl w.heap.size 9 i0 _ 1 16 Tryz.underlying24 hi hz0 hz1 hz2 rfl (by decide) _ _ _ rfl HO1.out B _ b.length (z03 b) rfl (H2.out.fr HF1.out hB (by simp)) (z3f b) ?d1 ?d2 ?d3 ?_)
   case d1=>show a.length+b.length≤_;unfold maxLen;omega
   case d2=>show(a.length+b.length) * 16≤_;omega
   case d3=>omega
   intro v' w2 hown' hgrow hat
   have HO2:=hid hown'
   have HF2:=hid (HF1.out.grown hgrow (fun k hk=>.inr (HO1.out.lt k hk).1))
   clear hown' hgrow hat x1
   go_wp2
   go_roundg (2 - (1+1))
   case measure=>omega
   case rel=>exact⟨2,rfl,by omega,by simp,by have:=HO2.out;simpa[z58,z03] using this,HF2.out⟩
  go_wp2
  go_ret
  exact⟨_,rfl,HO1.out,HF1.out⟩
end Go.Proofs.YtamgdmiopinidaaGreatDoor
