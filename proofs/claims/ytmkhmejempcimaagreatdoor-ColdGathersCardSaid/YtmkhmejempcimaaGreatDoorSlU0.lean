/- Contracts; no condition but each theorem's own. -/
import Derived.Below
import Derived.BigQuiet
import Derived.Calls
import Derived.Deep.AppendLies
import Derived.Deep.Draws
import Derived.Deep.OwnRows
import Derived.Deep.QuietTactic
import Derived.Laws.OwnMore
import Derived.Lib.Bytealg
import Derived.Lib.Hide
import Derived.LoopTactic
import Derived.Maps.AppendAt
import Derived.Outline
import Derived.OwnWalk
import Derived.Shelf.LaysC
import Derived.Shelf.LaysM
import Derived.Shelf.Slices.CompactS
import Derived.Shelf.Slices.In.SortNone
import Derived.Shelf.Small.Strs
import Derived.Shelf.Sort.Plain
import Derived.Shelf.Strconv.Atoi
import Derived.Shelf.Strconv.AtoiAll
import Derived.Shelf.Strconv.AtoiErrFast
import Derived.Shelf.Strconv.AtoiFail
import Derived.Shelf.Strconv.AtoiInnerAll
import Derived.Shelf.Strconv.AtoiLong
import Derived.Shelf.Strconv.Clone
import Derived.Shelf.Strconv.ErrVarAll
import Derived.Shelf.Strconv.Itoa0
import Derived.Shelf.Strconv.Itoa1
import Derived.Shelf.Strconv.Itoa2
import Derived.Shelf.Strconv.Itoa3
import Derived.Shelf.Strconv.Lower
import Derived.Shelf.Strconv.ParseInt10
import Derived.Shelf.Strconv.ParseIntEmpty
import Derived.Shelf.Strconv.ParseUint10
import Derived.Shelf.Strconv.ParseUint10Any
import Derived.Shelf.Strconv.ParseUint10Empty
import Derived.Shelf.Strconv.RangeError
import Derived.Shelf.Strconv.SyntaxError
import Derived.Shelf.Strconv.ToError
import Derived.Shelf.Strconv.ToErrorRange
import Derived.Shelf.Strings.Search1
import Derived.Test.YtmkhmejempcimaaGreatDoorProg
import Derived.WalkKit
import Derived.WalkLawsBesides
import Derived.WalkSpells
set_option linter.unusedVariables false
set_option linter.unusedSimpArgs false
set_option maxHeartbeats 8000000
set_option maxRecDepth 100000
namespace Go.Proofs.YtmkhmejempcimaaGreatDoor
open Go.Proofs.Tryz (prog)
open Go.RowKit
def Whole(w:World)(g:Nat)(t:TypeId)(cs:List Value):Prop:=w.heap[g]? = some (.cells cs.toArray t (0,0))
structure Fr(S:List Nat)(a b:World):Prop where
 os:b.os=a.os
 tape:b.tape=a.tape
 output:b.output=a.output
 size:a.heap.size≤b.heap.size
 block:∀k,k < a.heap.size→k∉S→b.heap[k]? = a.heap[k]?
section
variable {a b c w w':World} {S T:List Nat} {g:Nat} {t:TypeId} {cs:List Value}
theorem Fr.refl(S:List Nat)(w:World):Fr S w w:=⟨rfl,rfl,rfl,Nat.le_refl _,fun _ _ _=>rfl⟩
theorem Fr.trans(h:Fr S a b)(k:Fr S b c):Fr S a c:=
 ⟨k.os.trans h.os,k.tape.trans h.tape,k.output.trans h.output,Nat.le_trans h.size k.size,fun i hi hn=>(k.block i (Nat.lt_of_lt_of_le hi h.size) hn).trans (h.block i hi hn)⟩
theorem Fr.more(h:Fr S a b)(hs:∀k,k∈S→k∈T∨a.heap.size≤k):Fr T a b:=
 ⟨h.os,h.tape,h.output,h.size,fun i hi hn=>h.block i hi (fun hm=>by
  rcases hs i hm with hT|hT
  ·exact hn hT
  ·omega)⟩
theorem Fr.up(h:Fr [] a b):Fr T a b:=h.more (fun k hk=>absurd hk (by simp))
theorem Fr.step(h:Fr S a b)(k:Fr T b c)(hT:∀x,x∈T→x∈S∨a.heap.size≤x):Fr S a c:=
 ⟨k.os.trans h.os,k.tape.trans h.tape,k.output.trans h.output,Nat.le_trans h.size k.size,fun i hi hn=>
  (k.block i (Nat.lt_of_lt_of_le hi h.size) (fun hm=>by
    rcases hT i hm with h1|h1
    ·exact hn h1
    ·omega)).trans (h.block i hi hn)⟩
theorem Fr.drew(h:Fr S a b):Fr S a b.drew:=⟨h.os,h.tape,h.output,h.size,h.block⟩
theorem Fr.drewN(h:Fr S a b)(n:Nat):Fr S a (b.drewN n):=⟨h.os,h.tape,h.output,h.size,h.block⟩
theorem Fr.alloc(h:Fr S a b)(o:Obj):Fr S a (b.alloc o):=
 ⟨h.os,h.tape,h.output,Nat.le_trans h.size (by simp),fun i hi hn=>(Below.heap_alloc b o i (Nat.lt_of_lt_of_le hi h.size)).trans (h.block i hi hn)⟩
theorem Fr.setCell(h:Fr S a b){p:Addr}(hp:p.block∈S∨a.heap.size≤p.block)(u:Value):Fr S a (b.setCell p u):=
 ⟨h.os,h.tape,h.output,by simpa[World.setCell] using h.size,fun i hi hn=>(Below.heap_setCell b p u i (by
  rintro rfl;rcases hp with hp|hp
  ·exact hn hp
  ·omega)).trans (h.block i hi hn)⟩
theorem Fr.grown(h:Fr S a b){row:Option Nat}(hg:b.grownBy c row)(hr:∀k,row=some k→k∈S∨a.heap.size≤k):Fr S a c:=
 ⟨hg.os.trans h.os,hg.tape.trans h.tape,hg.output.trans h.output,Nat.le_trans h.size hg.size,fun i hi hn=>(hg.block i (Nat.lt_of_lt_of_le hi h.size) (fun e=>by
  rcases hr i e.symm with h1|h1
  ·exact hn h1
  ·omega)).trans (h.block i hi hn)⟩
theorem Fr.of_below(h:Below a.heap.size a b):Fr S a b:=⟨h.os,h.tape,h.output,h.size,fun i hi _=>h.block i hi⟩
theorem Fr.below(h:Fr [] a b):Below a.heap.size a b:=⟨h.os,h.tape,h.output,h.size,fun i hi=>h.block i hi (by simp)⟩
theorem Fr.belowOf{B:Nat}(h:Fr S a b)(hB:B≤a.heap.size)(hS:∀k,k∈S→B≤k):Below B a b:=
 ⟨h.os,h.tape,h.output,h.size,fun i hi=>h.block i (by omega) (fun hm=>by have:=hS i hm;omega)⟩
theorem Fr.cell?(h:Fr S a b){p:Addr}(hp:p.block < a.heap.size)(hn:p.block∉S):b.cell? p=a.cell? p:=World.cell?_of_block (h.block _ hp hn)
theorem Fr.cell(h:Fr S a b){p:Addr}{v:Value}(hc:a.cell? p=some v)(hn:p.block∉S):b.cell? p=some v:=
 (h.cell? (World.block_lt_of_cell? a p hc) hn).trans hc
theorem Whole.lt(h:Whole w g t cs):g < w.heap.size:=by
 rcases Nat.lt_or_ge g w.heap.size with hlt|hge
 ·exact hlt
 ·unfold Whole at h;rw[Array.getElem?_eq_none hge] at h;cases h
theorem Whole.cell(h:Whole w g t cs)(i:Nat):w.cell? ⟨g,i,none⟩=cs[i]? := by
 rw[cell_of_row w g i cs.toArray t (0,0) h];simp
theorem Whole.frozen(h:Whole w g t cs)(i:Nat):w.frozen? ⟨g,i,none⟩=false:=by
 unfold Whole at h;simp[World.frozen?,h]
theorem Whole.new(w:World)(t:TypeId)(cs:List Value):Whole (w.alloc (.cells cs.toArray t)) w.heap.size t cs:=heap_alloc_new w _
theorem Whole.drew(h:Whole w g t cs):Whole w.drew g t cs:=h
theorem Whole.alloc(h:Whole w g t cs)(o:Obj):Whole (w.alloc o) g t cs:=(Below.heap_alloc w o g h.lt).trans h
theorem Whole.set_(h:Whole w g t cs)(i:Nat)(u:Value):Whole (w.setCell ⟨g,i,none⟩ u) g t (cs.set i u):=by
 unfold Whole at h ⊢;simp[World.setCell,Array.getElem?_modify,h,List.setIfInBounds_toArray]
theorem Whole.far(h:Whole w g t cs){p:Addr}(hp:g≠p.block)(u:Value):Whole (w.setCell p u) g t cs:=(Below.heap_setCell w p u g hp).trans h
theorem Whole.fr(h:Whole w g t cs)(hf:Fr S w w')(hn:g∉S):Whole w' g t cs:=(hf.block g h.lt hn).trans h
theorem Whole.f0{S:List Nat}{w w':World}{g t:Nat}{cs:List Value}(h:Whole w g t cs)(hf:Fr S w w')(hn:g∉S:=by simp):Whole w' g t cs:=h.fr hf hn
theorem Whole.grown{row:Option Nat}(h:Whole w g t cs)(hb:w.grownBy w' row)(hg:some g≠row):Whole w' g t cs:=(hb.block g h.lt hg).trans h
theorem Whole.ne_{g':Nat}{t':TypeId}{cs':List Value}(h:Whole w g t cs)(h':Whole w g' t' cs')(hne:t≠t'):g≠g':=by
 rintro rfl;unfold Whole at h h';rw[h] at h';injection h' with h'
 injection h' with _ ht
 exact hne ht
end
def Sl(w:World)(B size:Nat)(v:Value)(n:Nat)(xs:List Value):Prop:=
 ∃A c,v=.slice A n c∧xs.length=n * size∧n≤c∧c≤maxLen ∧
  (0 < n→∃b off,A=some ⟨b,off,none⟩∧b < B∧∀j u,xs[j]? = some u→w.cell? ⟨b,off+j,none⟩=some u)
section
variable {w w':World} {B B' size n:Nat} {v:Value} {xs:List Value} {S:List Nat}
theorem Sl.keep(h:Sl w B size v n xs)(hk:∀p:Addr,p.block < B→w'.cell? p=w.cell? p):Sl w' B size v n xs:=by
 obtain⟨A,c,e,hl,hc,hm,hr⟩:=h;refine⟨A,c,e,hl,hc,hm,fun hn=>?_⟩;obtain⟨b,off,e2,hb,hcell⟩:=hr hn;exact⟨b,off,e2,hb,fun j u hu=>(hk ⟨b,off+j,none⟩ hb).trans (hcell j u hu)⟩
theorem Sl.more(h:Sl w B size v n xs)(hB:B≤B'):Sl w B' size v n xs:=by
 obtain⟨A,c,e,hl,hc,hm,hr⟩:=h;refine⟨A,c,e,hl,hc,hm,fun hn=>?_⟩;obtain⟨b,off,e2,hb,hcell⟩:=hr hn;exact⟨b,off,e2,by omega,hcell⟩
theorem Sl.below(h:Sl w B size v n xs)(hb:Below B w w'):Sl w' B size v n xs:=h.keep fun _ hp=>hb.cell hp
theorem Sl.fr(h:Sl w B size v n xs)(hf:Fr S w w')(hB:B≤w.heap.size)(hS:∀k,k∈S→B≤k):Sl w' B size v n xs:=
 h.below (hf.belowOf hB hS)
theorem Sl.nil(w:World)(B size:Nat):Sl w B size (.slice none 0 0) 0 []:=⟨none,0,rfl,by simp,Nat.le_refl _,by simp[maxLen],fun h=>absurd h (by omega)⟩
end
theorem Fr.drewN_of(w:World)(n:Nat)(S:List Nat):Fr S w (w.drewN n):=(Fr.refl S w).drewN n
def z0d(p:ByteArray)(i:Nat):Nat:=(p.data.toList.getD i 0).toNat
theorem z0p(p:ByteArray)(i:Nat)(h:i < p.size):(p[i]'h).toNat=z0d p i:=by
 have h':i < p.data.toList.length:=by simpa using h
 have:p.data.toList.getD i 0=p[i]:=by
  rw[List.getD_eq_getElem?_getD,List.getElem?_eq_getElem h'];rfl
 rw[z0d,this]
theorem z1r(p:ByteArray)(i:Nat):z0d p i < 256:=UInt8.toNat_lt _
theorem z5t{l:List UInt8}(i:Nat):z0d ⟨l.toArray⟩ i=(l.getD i 0).toNat:=rfl
inductive Part where
 | star
 | any
 | lit (c:Nat)
 | cls (neg:Bool) (rs:List (Nat×Nat))
def zlx(rs:List (Nat×Nat))(c:Nat):Bool:=rs.any fun r=>decide (r.1≤c)&&decide (c≤r.2)
def Part.may:Part→Nat→Bool
 | .star,_=>false
 | .any,_=>true
 | .lit x,c=>decide (c=x)
 | .cls neg rs,c=>zlx rs c != neg
def zdk(p:ByteArray):Nat→Nat→Option (List (Nat×Nat)×Nat)
 | 0,_=>none
 | n+1,k=>
  if k < p.size then
   if z0d p k=93 then some ([],k)
   else if k+2 < p.size∧z0d p (k+1)=45∧z0d p (k+2)≠93 then
    if z0d p (k+2) < z0d p k then none
    else (zdk p n (k+3)).map fun x=>((z0d p k,z0d p (k+2)) :: x.1,x.2)
   else (zdk p n (k+1)).map fun x=>((z0d p k,z0d p k) :: x.1,x.2)
  else none
def cls(p:ByteArray)(k:Nat):Option (List (Nat×Nat)×Nat):=zdk p (p.size+2 - k) k
def classAns(p:ByteArray)(k:Nat)(first:Bool):Nat×Bool:=
 match cls p k with
 | none=>(0,false)
 | some x=>(x.2,!(first&&x.1.isEmpty))
def zoy(p:ByteArray)(k:Nat):Option (Part×Nat):=
 if k < p.size then
  if z0d p k=42 then some (.star,k+1)
  else if z0d p k=63 then some (.any,k+1)
  else if z0d p k=91 then
   let neg:=decide (k+1 < p.size∧z0d p (k+1)=94)
   match cls p (if neg then k+2 else k+1) with
   | none=>none
   | some x=>if x.1.isEmpty then none else some (.cls neg x.1,x.2+1)
  else if z0d p k=92 then if k+1 < p.size then some (.lit (z0d p (k+1)),k+2) else none
  else some (.lit (z0d p k),k+1)
 else none
def zmo(p:ByteArray):Nat→Nat→Option (List (Nat×Part))
 | 0,k=>if k < p.size then none else some []
 | n+1,k=>
  if k < p.size then
   match zoy p k with
   | none=>none
   | some x=>(zmo p n x.2).map ((k,x.1) :: ·)
  else some []
def zca(p:ByteArray)(k:Nat):Option (List (Nat×Part)):=zmo p (p.size - k) k
def okAt(p:ByteArray)(k:Nat):Bool:=(zca p k).isSome
def z8s(p:ByteArray):Int:=if 60 < p.size then 2 else if okAt p 0 then 0 else 1
def ziq(P:Part)(f:Nat→Bool)(s:ByteArray):Nat→Bool
 | 0=>match P with
  | .star=>f 0
  | _=>false
 | i+1=>match P with
  | .star=>f (i+1)||ziq P f s i
  | _=>f i&&P.may (z0d s i)
def zli(ps:List Part)(s:ByteArray):Nat→Bool:=ps.foldl (fun f P=>ziq P f s) (fun i=>decide (i=0))
theorem eqB(p s:ByteArray):(p.toList==s.toList)=decide (p=s):=by
 by_cases h:p=s
 ·subst h;simp
 ·have:p.toList≠s.toList:=fun e=>h (by
   have:=congrArg List.toArray e;cases p;cases s;simpa[ByteArray.toList_eq] using this)
  simp[h,this]
theorem z1s(p:ByteArray)(a b i:Nat)(hb:b≤p.size)(h:a+i < b):z0d (p.extract a b) i=z0d p (a+i):=by
 unfold z0d;congr 1;simp only[List.getD_eq_getElem?_getD,ByteArray.data_extract,Array.toList_extract];congr 1;rw[List.extract_eq_take_drop,List.getElem?_take,if_pos (by omega),List.getElem?_drop]
end Go.Proofs.YtmkhmejempcimaaGreatDoor
namespace Go.Proofs.YtmkhmejempcimaaGreatDoor
open Go.Proofs.Tryz (prog)
structure Itm where
 kind:Int
 text:ByteArray
 list:List ByteArray
 pairs:List (ByteArray×ByteArray)
 scores:List (Int×ByteArray)
abbrev yIa(x:Itm)(A:Option Addr)(a:Nat)(B:Option Addr)(b:Nat)(C:Option Addr)(c:Nat):Array Value:=#[.int .i64 x.kind,.string x.text,.slice A x.list.length a,.slice B x.pairs.length b,.slice C x.scores.length c]
abbrev yIl(x:Itm)(A:Option Addr)(a:Nat)(B:Option Addr)(b:Nat)(C:Option Addr)(c:Nat):List Value:=[.int .i64 x.kind,.string x.text,.slice A x.list.length a,.slice B x.pairs.length b,.slice C x.scores.length c]
abbrev yIza:Array Value:=#[.int .i64 0,.string ⟨#[]⟩,.slice none 0 0,.slice none 0 0,.slice none 0 0]
abbrev yIzl:List Value:=[.int .i64 0,.string ⟨#[]⟩,.slice none 0 0,.slice none 0 0,.slice none 0 0]
abbrev yIc(w:World)(p:Nat)(x:Itm)(A:Option Addr)(a:Nat)(B:Option Addr)(b:Nat)(C:Option Addr)(c:Nat):Prop:=w.cell? ⟨p,0,none⟩=some (.int .i64 x.kind)∧w.cell? ⟨p,1,none⟩=some (.string x.text)∧w.cell? ⟨p,2,none⟩=some (.slice A x.list.length a)∧w.cell? ⟨p,3,none⟩=some (.slice B x.pairs.length b)∧w.cell? ⟨p,4,none⟩=some (.slice C x.scores.length c)
def z36(a b:ByteArray):Int:=Lib.compareBytes a.data.toList b.data.toList
def z17(n:Int):Bool:=decide (-999999999≤n)&&decide (n≤999999999)
def z04(l:List ByteArray):List Value:=l.map .string
def z0t(l:List (ByteArray×ByteArray)):List Value:=l.flatMap fun p=>[.string p.1,.string p.2]
def z0h(l:List (Int×ByteArray)):List Value:=l.flatMap fun p=>[.int .i64 p.1,.string p.2]
def z1m(w:World)(B:Nat)(v:Value)(x:Itm):Prop:=
 ∃A1 c1 A2 c2 A3 c3,v=.agg #[.int .i64 x.kind,.string x.text,.slice A1 x.list.length c1,.slice A2 x.pairs.length c2,.slice A3 x.scores.length c3] ∧
  Sl w B 1 (.slice A1 x.list.length c1) x.list.length (z04 x.list)∧Sl w B 2 (.slice A2 x.pairs.length c2) x.pairs.length (z0t x.pairs)∧Sl w B 2 (.slice A3 x.scores.length c3) x.scores.length (z0h x.scores)
structure Itm.Small(x:Itm):Prop where
 kind:-9223372036854775808≤x.kind∧x.kind≤9223372036854775807
 text:x.text.size≤281474976710656
 list:x.list.length≤281474976710656
 pairs:x.pairs.length≤281474976710656
 scores:x.scores.length≤281474976710656
 texts:∀s∈x.list,s.size≤281474976710656
 fields:∀p∈x.pairs,p.1.size≤281474976710656∧p.2.size≤281474976710656
 members:∀p∈x.scores,(-9223372036854775808≤p.1∧p.1≤9223372036854775807)∧p.2.size≤281474976710656
theorem z0x(l:List ByteArray)(i:Nat)(s:ByteArray)(h:l[i]? = some s):(z04 l)[i]? = some (.string s):=by
 simp[z04,h]
theorem z5y(l:List ByteArray):(z04 l).length=l.length:=by simp[z04]
theorem z0j:∀(l:List (ByteArray×ByteArray)) (i:Nat) (p:ByteArray×ByteArray),l[i]? = some p→(z0t l)[2 * i]? = some (.string p.1)∧(z0t l)[2 * i+1]? = some (.string p.2)
 | [],i,p,h=>by simp at h
 | q :: l,0,p,h=>by
  simp only[List.getElem?_cons_zero,Option.some.injEq] at h;subst h;exact⟨rfl,rfl⟩
 | q :: l,i+1,p,h=>by
  have:=z0j l i p (by simpa using h);rw[show 2 * (i+1)=2 * i+1+1 by omega];exact⟨by simpa[z0t] using this.1,by simpa[z0t] using this.2⟩
theorem z4b:∀l:List (ByteArray×ByteArray),(z0t l).length=2 * l.length
 | []=>rfl
 | q :: l=>by
  have:=z4b l;simp only[z0t,List.flatMap_cons,List.length_append,List.length_cons,List.length_nil] at this ⊢;omega
theorem z0f:∀(l:List (Int×ByteArray)) (i:Nat) (p:Int×ByteArray),l[i]? = some p→(z0h l)[2 * i]? = some (.int .i64 p.1)∧(z0h l)[2 * i+1]? = some (.string p.2)
 | [],i,p,h=>by simp at h
 | q :: l,0,p,h=>by
  simp only[List.getElem?_cons_zero,Option.some.injEq] at h;subst h;exact⟨rfl,rfl⟩
 | q :: l,i+1,p,h=>by
  have:=z0f l i p (by simpa using h);rw[show 2 * (i+1)=2 * i+1+1 by omega];exact⟨by simpa[z0h] using this.1,by simpa[z0h] using this.2⟩
theorem z3q:∀l:List (Int×ByteArray),(z0h l).length=2 * l.length
 | []=>rfl
 | q :: l=>by
  have:=z3q l;simp only[z0h,List.flatMap_cons,List.length_append,List.length_cons,List.length_nil] at this ⊢;omega
theorem z1m.keep{w w':World}{B:Nat}{v:Value}{x:Itm}(h:z1m w B v x)(hk:∀p:Addr,p.block < B→w'.cell? p=w.cell? p):z1m w' B v x:=by
 obtain⟨A1,c1,A2,c2,A3,c3,e,h1,h2,h3⟩:=h;exact⟨A1,c1,A2,c2,A3,c3,e,h1.keep hk,h2.keep hk,h3.keep hk⟩
theorem z1m.fr{w w':World}{B:Nat}{S:List Nat}{v:Value}{x:Itm}(h:z1m w B v x)(hf:Fr S w w')(hB:B≤w.heap.size)(hS:∀k,k∈S→B≤k):z1m w' B v x:=
 h.keep fun _ hp=>(hf.belowOf hB hS).cell hp
theorem z1m.more{w:World}{B B':Nat}{v:Value}{x:Itm}(h:z1m w B v x)(hB:B≤B'):z1m w B' v x:=by
 obtain⟨A1,c1,A2,c2,A3,c3,e,h1,h2,h3⟩:=h;exact⟨A1,c1,A2,c2,A3,c3,e,h1.more hB,h2.more hB,h3.more hB⟩
theorem Sl.at_{w:World}{B size n c:Nat}{A:Option Addr}{xs:List Value}(h:Sl w B size (.slice A n c) n xs)(hn:0 < n):
  ∃b off,A=some ⟨b,off,none⟩∧b < B∧n≤c∧c≤maxLen∧∀j u,xs[j]? = some u→w.cell? ⟨b,off+j,none⟩=some u:=by
 obtain⟨A',c',e,hl,hc,hm,hr⟩:=h;cases e;obtain⟨b,off,e2,hb,hcell⟩:=hr hn;exact⟨b,off,e2,hb,hc,hm,hcell⟩
def z4o(x:Itm):Bool:=
 (x.kind==1||x.text.size==0)&&(x.kind==2||x.kind==3||x.list.length==0)&&(x.kind==4||x.pairs.length==0)&&(x.kind==5||x.scores.length==0)
def many(x:Itm):Nat:=x.list.length+x.pairs.length+x.scores.length
end Go.Proofs.YtmkhmejempcimaaGreatDoor
namespace Go.Proofs.YtmkhmejempcimaaGreatDoor
open Go.Proofs.Tryz (prog)
open Go.RowKit
section
variable {w w':World} {base e size n:Nat} {v:Value} {xs:List Value}
theorem z0g{b T:Nat}{cs:List Value}(h:w.ownsRow base e size v n xs)(hw:Whole w b T cs)(hT:T≠e):v.ownBlock≠some b:=by
 rcases h.2 with⟨rfl,_⟩|⟨g,cap,cur,rfl,_,hg,_⟩
 ·simp[Value.ownBlock]
 ·intro he;have:g=b:=by simpa[Value.ownBlock] using he
  subst this;unfold Whole at hw;rw[hg] at hw;injection hw with hw
  injection hw with _ ht
  exact hT ht.symm
theorem z4j{base' e' size' n':Nat}{v':Value}{xs':List Value}(h:w.ownsRow base e size v n xs)(h':w.ownsRow base' e' size' v' n' xs')(hT:e≠e'):v.ownBlock=none∨v.ownBlock≠v'.ownBlock:=by
 rcases h.2 with⟨rfl,_⟩|⟨g,cap,cur,rfl,_,hg,_⟩
 ·exact .inl rfl
 ·refine .inr fun he=>?_;rcases h'.2 with⟨rfl,_⟩|⟨g',cap',cur',rfl,_,hg',_⟩
  ·simp[Value.ownBlock] at he
  ·have:g=g':=by simpa[Value.ownBlock] using he
   subst this;rw[hg] at hg';injection hg' with hg'
   injection hg' with _ ht
   exact hT ht
theorem z05{S:List Nat}(h:w.ownsRow base e size v n xs)(hf:Fr S w w')(hn:∀k,v.ownBlock=some k→k∉S):w'.ownsRow base e size v n xs:=by
 refine⟨h.1,?_⟩;rcases h.2 with hz|⟨g,cap,cur,rfl,hb,hgg,rest⟩
 ·exact .inl hz
 ·refine .inr ⟨g,cap,cur,rfl,hb,?_,rest⟩;rw[hf.block g (Array.getElem?_eq_some_iff.1 hgg).1 (hn g rfl)];exact hgg
theorem z0c{p:Addr}(u:Value)(h:w.ownsRow base e size v n xs)(hn:v.ownBlock≠some p.block):(w.setCell p u).ownsRow base e size v n xs:=
 h.kept (row:=some p.block) ⟨rfl,rfl,rfl,by simp[World.setCell],fun k _ hk=>Below.heap_setCell _ _ _ _ (fun e=>hk (by simp[e]))⟩ (Or.inr hn)
theorem z0o(h:w.ownsRow base e size v n xs):Sl w w.heap.size size v n xs:=by
 rcases h.2 with⟨rfl,rfl⟩|⟨g,cap,cur,rfl,hb,hgg,hnc,hcm,hcs,ht⟩
 ·have:xs=[]:=List.eq_nil_of_length_eq_zero (by have:=h.1;omega);subst this;exact Sl.nil _ _ _
 ·exact⟨_,cap,rfl,h.1,hnc,hcm,fun _=>⟨g,0,rfl,(Array.getElem?_eq_some_iff.1 hgg).1,fun j u hu=>by
   have:=h.cells (g:=g) rfl j u hu;rw[Nat.zero_add];unfold Addr.add at this;split at this
   ·have e:j=0:=by assumption
    rw[e];exact this
   ·simpa using this⟩⟩
end
structure FrB(S:List Nat)(B:Nat)(a b:World):Prop where
 os:b.os=a.os
 tape:b.tape=a.tape
 output:b.output=a.output
 size:a.heap.size≤b.heap.size
 block:∀k,k < a.heap.size→k < B→k∉S→b.heap[k]? = a.heap[k]?
section
variable {a b c w w':World} {S T:List Nat} {B:Nat}
theorem Fr.toB(h:Fr S a b)(B:Nat):FrB S B a b:=⟨h.os,h.tape,h.output,h.size,fun k hk _ hn=>h.block k hk hn⟩
theorem FrB.refl(S:List Nat)(B:Nat)(w:World):FrB S B w w:=⟨rfl,rfl,rfl,Nat.le_refl _,fun _ _ _ _=>rfl⟩
theorem FrB.trans(h:FrB S B a b)(k:FrB S B b c):FrB S B a c:=
 ⟨k.os.trans h.os,k.tape.trans h.tape,k.output.trans h.output,Nat.le_trans h.size k.size,fun i hi hB hn=>(k.block i (Nat.lt_of_lt_of_le hi h.size) hB hn).trans (h.block i hi hB hn)⟩
theorem FrB.more(h:FrB S B a b)(hs:∀k,k∈S→k∈T∨B≤k):FrB T B a b:=
 ⟨h.os,h.tape,h.output,h.size,fun i hi hB hn=>h.block i hi hB (fun hm=>by
  rcases hs i hm with hT|hT
  ·exact hn hT
  ·omega)⟩
theorem FrB.alloc(h:FrB S B a b)(o:Obj):FrB S B a (b.alloc o):=
 ⟨h.os,h.tape,h.output,Nat.le_trans h.size (by simp),fun i hi hB hn=>(Below.heap_alloc b o i (Nat.lt_of_lt_of_le hi h.size)).trans (h.block i hi hB hn)⟩
theorem FrB.setCell(h:FrB S B a b){p:Addr}(hp:p.block∈S∨B≤p.block)(u:Value):FrB S B a (b.setCell p u):=
 ⟨h.os,h.tape,h.output,by simpa[World.setCell] using h.size,fun i hi hB hn=>(Below.heap_setCell b p u i (by
  rintro rfl;rcases hp with hp|hp
  ·exact hn hp
  ·omega)).trans (h.block i hi hB hn)⟩
theorem FrB.grown(h:FrB S B a b){row:Option Nat}(hg:b.grownBy c row)(hr:∀k,row=some k→k∈S∨B≤k):FrB S B a c:=
 ⟨hg.os.trans h.os,hg.tape.trans h.tape,hg.output.trans h.output,Nat.le_trans h.size hg.size,fun i hi hB hn=>(hg.block i (Nat.lt_of_lt_of_le hi h.size) (fun e=>by
  rcases hr i e.symm with h1|h1
  ·exact hn h1
  ·omega)).trans (h.block i hi hB hn)⟩
theorem FrB.fr(h:FrB S B a b)(hB:a.heap.size≤B):Fr S a b:=⟨h.os,h.tape,h.output,h.size,fun k hk hn=>h.block k hk (by omega) hn⟩
theorem FrB.whole{g t:Nat}{cs:List Value}(h:FrB S B w w')(hw:Whole w g t cs)(hB:g < B)(hn:g∉S):Whole w' g t cs:=(h.block g hw.lt hB hn).trans hw
theorem FrB.belowOf(h:FrB S B a b){D:Nat}(hD:D≤a.heap.size)(hDB:D≤B)(hS:∀k,k∈S→D≤k):Below D a b:=
 ⟨h.os,h.tape,h.output,h.size,fun i hi=>h.block i (by omega) (by omega) (fun hm=>by have:=hS i hm;omega)⟩
end
end Go.Proofs.YtmkhmejempcimaaGreatDoor
namespace Go.Proofs
open Go.Proofs.Tryz (prog)
open Go.Shelf
def Tryz.lays137_ren:Go.Shelf.Ren:=⟨fun|137=>98|217=>123|266=>179|n=>n,fun|9=>9|5=>5|3=>3|n=>n,fun|n=>n⟩
theorem Tryz.lays137:Go.Proofs.Lays.n137 prog Tryz.lays137_ren:={
 mixed:=by kernel_rfl
 f137:=Tryz.func98.trans (congrArg some (by kernel_rfl))
 f217:=Tryz.func123.trans (congrArg some (by kernel_rfl))
 f266:=Tryz.func179.trans (congrArg some (by kernel_rfl))
 t3:=Tryz.underlying3
 a3:=Tryz.isAgg3
 z3:=Tryz.sizeOf3
 v3:=Tryz.zeroValue3
 t5:=Tryz.underlying5
 a5:=Tryz.isAgg5
 z5:=Tryz.sizeOf5
 v5:=Tryz.zeroValue5
 t9:=Tryz.underlying9
 a9:=Tryz.isAgg9
 z9:=Tryz.sizeOf9
 v9:=Tryz.zeroValue9 }
open Go.RowKit in
theorem Tryz.strings_IndexByte(s:ByteArray)(c:Int)(w:World):
  Calls prog 98 #[.string s,.int .u8 c] w fun e w'=>e=.returned (.int .i64 (Lib.indexByte s.data.toList c.toNat.toUInt8))∧w'=w:=Any.strings_IndexByte Tryz.lays137 s c w
def Tryz.laysM171_ren:Go.Shelf.Ren:=⟨fun|171=>96|243=>122|246=>178|283=>226|284=>227|285=>228|286=>229|129=>252|317=>251|318=>253|319=>254|320=>255|337=>267|338=>268|n=>n,fun|3=>3|9=>9|2=>2|4=>4|171=>255|0=>0|53=>249|37=>130|5=>5|173=>258|212=>280|51=>281|20=>20|213=>282|46=>167|232=>314|233=>315|n=>n,fun|17=>3|18=>4|19=>5|n=>n⟩
theorem Tryz.laysM171:Go.Proofs.LaysM.n171 prog Tryz.laysM171_ren:={
 mixed:=by kernel_rfl
 f129:=Tryz.func252.trans (congrArg some (by kernel_rfl))
 f171:=Tryz.func96.trans (congrArg some (by kernel_rfl))
 f243:=Tryz.func122.trans (congrArg some (by kernel_rfl))
 f246:=Tryz.func178.trans (congrArg some (by kernel_rfl))
 f283:=Tryz.func226.trans (congrArg some (by kernel_rfl))
 f284:=Tryz.func227.trans (congrArg some (by kernel_rfl))
 f285:=Tryz.func228.trans (congrArg some (by kernel_rfl))
 f286:=Tryz.func229.trans (congrArg some (by kernel_rfl))
 f317:=Tryz.func251.trans (congrArg some (by kernel_rfl))
 f318:=Tryz.func253.trans (congrArg some (by kernel_rfl))
 f319:=Tryz.func254.trans (congrArg some (by kernel_rfl))
 f320:=Tryz.func255.trans (congrArg some (by kernel_rfl))
 f337:=Tryz.func267.trans (congrArg some (by kernel_rfl))
 f338:=Tryz.func268.trans (congrArg some (by kernel_rfl))
 t0:=Tryz.underlying0
 a0:=Tryz.isAgg0
 z0:=Tryz.sizeOf0
 v0:=Tryz.zeroValue0
 t2:=Tryz.underlying2
 a2:=Tryz.isAgg2
 z2:=Tryz.sizeOf2
 v2:=Tryz.zeroValue2
 t3:=Tryz.underlying3
 a3:=Tryz.isAgg3
 z3:=Tryz.sizeOf3
 v3:=Tryz.zeroValue3
 t4:=Tryz.underlying4
 a4:=Tryz.isAgg4
 z4:=Tryz.sizeOf4
 v4:=Tryz.zeroValue4
 t5:=Tryz.underlying5
 a5:=Tryz.isAgg5
 z5:=Tryz.sizeOf5
 v5:=Tryz.zeroValue5
 t9:=Tryz.underlying9
 a9:=Tryz.isAgg9
 z9:=Tryz.sizeOf9
 v9:=Tryz.zeroValue9
 t20:=Tryz.underlying20
 a20:=Tryz.isAgg20
 z20:=Tryz.sizeOf20
 v20:=Tryz.zeroValue20
 t37:=Tryz.underlying130
 a37:=Tryz.isAgg130
 z37:=Tryz.sizeOf130
 v37:=Tryz.zeroValue130
 t46:=Tryz.underlying167
 a46:=Tryz.isAgg167
 z46:=Tryz.sizeOf167
 v46:=Tryz.zeroValue167
 t51:=Tryz.underlying281
 a51:=Tryz.isAgg281
 z51:=Tryz.sizeOf281
 v51:=Tryz.zeroValue281
 t53:=Tryz.underlying249
 a53:=Tryz.isAgg249
 z53:=Tryz.sizeOf249
 v53:=Tryz.zeroValue249
 t171:=Tryz.underlying255
 a171:=Tryz.isAgg255
 z171:=Tryz.sizeOf255
 v171:=Tryz.zeroValue255
 t173:=Tryz.underlying258
 a173:=Tryz.isAgg258
 z173:=Tryz.sizeOf258
 v173:=Tryz.zeroValue258
 t212:=Tryz.underlying280
 a212:=Tryz.isAgg280
 z212:=Tryz.sizeOf280
 v212:=Tryz.zeroValue280
 t213:=Tryz.underlying282
 a213:=Tryz.isAgg282
 z213:=Tryz.sizeOf282
 t232:=Tryz.underlying314
 a232:=Tryz.isAgg314
 z232:=Tryz.sizeOf314
 v232:=Tryz.zeroValue314
 t233:=Tryz.underlying315
 a233:=Tryz.isAgg315
 z233:=Tryz.sizeOf315
 v233:=Tryz.zeroValue315
 g17:=by kernel_rfl
 g18:=by kernel_rfl
 g19:=by kernel_rfl
 i0:=by kernel_rfl
 i2:=by kernel_rfl
 i3:=by kernel_rfl
 i4:=by kernel_rfl
 i5:=by kernel_rfl
 i9:=by kernel_rfl
 i20:=by kernel_rfl
 i37:=by kernel_rfl
 i46:=by kernel_rfl
 i51:=by kernel_rfl
 i53:=by kernel_rfl
 i171:=by kernel_rfl
 i173:=by kernel_rfl
 i212:=by kernel_rfl
 i232:=by kernel_rfl
 i233:=by kernel_rfl
 m17:=by kernel_rfl
 m18:=by kernel_rfl
 m19:=by kernel_rfl }
open Go.RowKit Go.Sort Go.Lib in
theorem Tryz.strconv_Itoa(n:Int)(h0:-9223372036854775808≤n)(h1:n≤9223372036854775807)(w:World)(htab:Lib.TabIs prog w "internal/strconv.uint64pow10" .u64 Lib.pow10Tab):
  Calls prog 96 #[.int .i64 n] w fun e w'=>e=.returned (.string ⟨(Lib.itoa n).toArray⟩)∧∃k os,w'=grow (w.drewN k) os:=Any.strconv_Itoa Tryz.laysM171 n h0 h1 w htab
def Tryz.laysC172_ren:Go.Shelf.Ren:=⟨fun|172=>95|244=>120|245=>121|247=>173|279=>174|280=>175|281=>176|282=>177|287=>223|316=>224|171=>96|205=>225|321=>249|322=>250|243=>122|246=>178|283=>226|284=>227|285=>228|286=>229|129=>252|317=>251|318=>253|319=>254|320=>255|337=>267|338=>268|n=>n,fun|9=>9|3=>3|75=>136|76=>138|4=>4|5=>5|167=>216|37=>130|0=>0|85=>217|2=>2|168=>219|53=>249|175=>250|46=>167|210=>253|127=>165|145=>278|143=>276|21=>21|171=>255|173=>258|212=>280|51=>281|20=>20|213=>282|232=>314|233=>315|80=>140|n=>n,fun|15=>1|16=>2|17=>3|18=>4|19=>5|n=>n⟩
theorem Tryz.laysC172:Go.Proofs.LaysC.n172 prog Tryz.laysC172_ren:={
 mixed:=by kernel_rfl
 f129:=Tryz.func252.trans (congrArg some (by kernel_rfl))
 f171:=Tryz.func96.trans (congrArg some (by kernel_rfl))
 f172:=Tryz.func95.trans (congrArg some (by kernel_rfl))
 f205:=Tryz.func225.trans (congrArg some (by kernel_rfl))
 f243:=Tryz.func122.trans (congrArg some (by kernel_rfl))
 f244:=Tryz.func120.trans (congrArg some (by kernel_rfl))
 f245:=Tryz.func121.trans (congrArg some (by kernel_rfl))
 f246:=Tryz.func178.trans (congrArg some (by kernel_rfl))
 f247:=Tryz.func173.trans (congrArg some (by kernel_rfl))
 f279:=Tryz.func174.trans (congrArg some (by kernel_rfl))
 f280:=Tryz.func175.trans (congrArg some (by kernel_rfl))
 f281:=Tryz.func176.trans (congrArg some (by kernel_rfl))
 f282:=Tryz.func177.trans (congrArg some (by kernel_rfl))
 f283:=Tryz.func226.trans (congrArg some (by kernel_rfl))
 f284:=Tryz.func227.trans (congrArg some (by kernel_rfl))
 f285:=Tryz.func228.trans (congrArg some (by kernel_rfl))
 f286:=Tryz.func229.trans (congrArg some (by kernel_rfl))
 f287:=Tryz.func223.trans (congrArg some (by kernel_rfl))
 f316:=Tryz.func224.trans (congrArg some (by kernel_rfl))
 f317:=Tryz.func251.trans (congrArg some (by kernel_rfl))
 f318:=Tryz.func253.trans (congrArg some (by kernel_rfl))
 f319:=Tryz.func254.trans (congrArg some (by kernel_rfl))
 f320:=Tryz.func255.trans (congrArg some (by kernel_rfl))
 f321:=Tryz.func249.trans (congrArg some (by kernel_rfl))
 f322:=Tryz.func250.trans (congrArg some (by kernel_rfl))
 f337:=Tryz.func267.trans (congrArg some (by kernel_rfl))
 f338:=Tryz.func268.trans (congrArg some (by kernel_rfl))
 t0:=Tryz.underlying0
 a0:=Tryz.isAgg0
 z0:=Tryz.sizeOf0
 v0:=Tryz.zeroValue0
 t2:=Tryz.underlying2
 a2:=Tryz.isAgg2
 z2:=Tryz.sizeOf2
 v2:=Tryz.zeroValue2
 t3:=Tryz.underlying3
 a3:=Tryz.isAgg3
 z3:=Tryz.sizeOf3
 v3:=Tryz.zeroValue3
 t4:=Tryz.underlying4
 a4:=Tryz.isAgg4
 z4:=Tryz.sizeOf4
 v4:=Tryz.zeroValue4
 t5:=Tryz.underlying5
 a5:=Tryz.isAgg5
 z5:=Tryz.sizeOf5
 v5:=Tryz.zeroValue5
 t9:=Tryz.underlying9
 a9:=Tryz.isAgg9
 z9:=Tryz.sizeOf9
 v9:=Tryz.zeroValue9
 t20:=Tryz.underlying20
 a20:=Tryz.isAgg20
 z20:=Tryz.sizeOf20
 v20:=Tryz.zeroValue20
 t21:=Tryz.underlying21
 a21:=Tryz.isAgg21
 z21:=Tryz.sizeOf21
 v21:=Tryz.zeroValue21
 t37:=Tryz.underlying130
 a37:=Tryz.isAgg130
 z37:=Tryz.sizeOf130
 v37:=Tryz.zeroValue130
 t46:=Tryz.underlying167
 a46:=Tryz.isAgg167
 z46:=Tryz.sizeOf167
 v46:=Tryz.zeroValue167
 t51:=Tryz.underlying281
 a51:=Tryz.isAgg281
 z51:=Tryz.sizeOf281
 v51:=Tryz.zeroValue281
 t53:=Tryz.underlying249
 a53:=Tryz.isAgg249
 z53:=Tryz.sizeOf249
 v53:=Tryz.zeroValue249
 t75:=Tryz.underlying136
 a75:=Tryz.isAgg136
 z75:=Tryz.sizeOf136
 v75:=Tryz.zeroValue136
 t76:=Tryz.underlying138
 a76:=Tryz.isAgg138
 z76:=Tryz.sizeOf138
 v76:=Tryz.zeroValue138
 t85:=Tryz.underlying217
 a85:=Tryz.isAgg217
 z85:=Tryz.sizeOf217
 v85:=Tryz.zeroValue217
 t127:=Tryz.underlying165
 a127:=Tryz.isAgg165
 z127:=Tryz.sizeOf165
 v127:=Tryz.zeroValue165
 t143:=Tryz.underlying276
 a143:=Tryz.isAgg276
 z143:=Tryz.sizeOf276
 v143:=Tryz.zeroValue276
 t145:=Tryz.underlying278
 a145:=Tryz.isAgg278
 z145:=Tryz.sizeOf278
 v145:=Tryz.zeroValue278
 t167:=Tryz.underlying216
 a167:=Tryz.isAgg216
 z167:=Tryz.sizeOf216
 v167:=Tryz.zeroValue216
 t168:=Tryz.underlying219
 a168:=Tryz.isAgg219
 z168:=Tryz.sizeOf219
 v168:=Tryz.zeroValue219
 t171:=Tryz.underlying255
 a171:=Tryz.isAgg255
 z171:=Tryz.sizeOf255
 v171:=Tryz.zeroValue255
 t173:=Tryz.underlying258
 a173:=Tryz.isAgg258
 z173:=Tryz.sizeOf258
 v173:=Tryz.zeroValue258
 t175:=Tryz.underlying250
 a175:=Tryz.isAgg250
 z175:=Tryz.sizeOf250
 v175:=Tryz.zeroValue250
 t210:=Tryz.underlying253
 a210:=Tryz.isAgg253
 z210:=Tryz.sizeOf253
 v210:=Tryz.zeroValue253
 t212:=Tryz.underlying280
 a212:=Tryz.isAgg280
 z212:=Tryz.sizeOf280
 v212:=Tryz.zeroValue280
 t213:=Tryz.underlying282
 a213:=Tryz.isAgg282
 z213:=Tryz.sizeOf282
 t232:=Tryz.underlying314
 a232:=Tryz.isAgg314
 z232:=Tryz.sizeOf314
 v232:=Tryz.zeroValue314
 t233:=Tryz.underlying315
 a233:=Tryz.isAgg315
 z233:=Tryz.sizeOf315
 v233:=Tryz.zeroValue315
 g15:=by kernel_rfl
 g16:=by kernel_rfl
 g17:=by kernel_rfl
 g18:=by kernel_rfl
 g19:=by kernel_rfl
 t80:=Tryz.underlying140
 a80:=Tryz.isAgg140
 z80:=Tryz.sizeOf140
 v80:=Tryz.zeroValue140
 i0:=by kernel_rfl
 i2:=by kernel_rfl
 i3:=by kernel_rfl
 i4:=by kernel_rfl
 i5:=by kernel_rfl
 i9:=by kernel_rfl
 i20:=by kernel_rfl
 i21:=by kernel_rfl
 i37:=by kernel_rfl
 i46:=by kernel_rfl
 i51:=by kernel_rfl
 i53:=by kernel_rfl
 i75:=by kernel_rfl
 i76:=by kernel_rfl
 i80:=by kernel_rfl
 i85:=by kernel_rfl
 i127:=by kernel_rfl
 i143:=by kernel_rfl
 i145:=by kernel_rfl
 i167:=by kernel_rfl
 i168:=by kernel_rfl
 i171:=by kernel_rfl
 i173:=by kernel_rfl
 i175:=by kernel_rfl
 i210:=by kernel_rfl
 i212:=by kernel_rfl
 i232:=by kernel_rfl
 i233:=by kernel_rfl
 m15:=by kernel_rfl
 m16:=by kernel_rfl
 m17:=by kernel_rfl
 m18:=by kernel_rfl
 m19:=by kernel_rfl
 c0:=by kernel_rfl
 c2:=by kernel_rfl
 c3:=by kernel_rfl
 c4:=by kernel_rfl
 c5:=by kernel_rfl
 c9:=by kernel_rfl
 c20:=by kernel_rfl
 c21:=by kernel_rfl
 c37:=by kernel_rfl
 c46:=by kernel_rfl
 c51:=by kernel_rfl
 c53:=by kernel_rfl
 c75:=by kernel_rfl
 c76:=by kernel_rfl
 c80:=by kernel_rfl
 c85:=by kernel_rfl
 c127:=by kernel_rfl
 c143:=by kernel_rfl
 c145:=by kernel_rfl
 c167:=by kernel_rfl
 c168:=by kernel_rfl
 c171:=by kernel_rfl
 c173:=by kernel_rfl
 c175:=by kernel_rfl
 c210:=by kernel_rfl
 c212:=by kernel_rfl
 c213:=by kernel_rfl
 c232:=by kernel_rfl
 c233:=by kernel_rfl }
open Go.RowKit in
theorem Tryz.strconv_Atoi_ok(s:ByteArray)(hmax:s.size≤9223372036854775806)(v:Int)(h:Lib.atoiAll s.data.toList=.ok v)(w:World):
  Calls prog 95 #[.string s] w fun e w'=>e=.returned (.tuple #[.int .i64 v,.nilIface])∧(w'=w∨∃t,w'=Lib.bytesWorld w 5 t):=Any.strconv_Atoi_ok Tryz.laysC172 s hmax v h w
open Go.RowKit in
theorem Tryz.strconv_Atoi_syntax_var(s:ByteArray)(hlim:s.size≤281474976710656)(h:Lib.atoiAll s.data.toList=Lib.atoiAll [])(tp:TypeId)(p:Value)(w:World)(hvar:w.var? prog "strconv.ErrSyntax" = some #[.iface tp p]):
  Calls prog 95 #[.string s] w fun e w'=>∃N,e=.returned (.tuple #[.int .i64 0,.iface 219 (.pointer (some ⟨N,0,none⟩))])∧w.heap.size≤N∧w'.heap[N]? = some (.cells #[.string ⟨#[65,116,111,105]⟩,.string s,.iface tp p] 253 (0,0))∧Below w.heap.size w w':=Any.strconv_Atoi_syntax_var Tryz.laysC172 s hlim h tp p w hvar
open Go.RowKit in
theorem Tryz.strconv_Atoi_range_var(s:ByteArray)(hlim:s.size≤281474976710656)(h:Lib.atoiAll s.data.toList=.range)(tp:TypeId)(p:Value)(w:World)(hvar:w.var? prog "strconv.ErrRange" = some #[.iface tp p]):
  Calls prog 95 #[.string s] w fun e w'=>∃N,e=.returned (.tuple #[.int .i64 (Lib.atoiSat s.data.toList),.iface 219 (.pointer (some ⟨N,0,none⟩))])∧w.heap.size≤N∧w'.heap[N]? = some (.cells #[.string ⟨#[65,116,111,105]⟩,.string s,.iface tp p] 253 (0,0))∧Below w.heap.size w w':=Any.strconv_Atoi_range_var Tryz.laysC172 s hlim h tp p w hvar
end Go.Proofs
