/- Contracts; no condition but each theorem's own. -/
import Derived.Below
import Derived.BigQuiet
import Derived.Calls
import Derived.Deep.AppendLies
import Derived.Deep.DeepCutAuto
import Derived.Deep.Draws
import Derived.Deep.LoopGhost
import Derived.Deep.OwnRows
import Derived.Deep.QuietTactic
import Derived.IntWalk
import Derived.Laws.AppendOwn
import Derived.Laws.IdiomCopy
import Derived.Laws.OwnMore
import Derived.Lib.AtoiAll
import Derived.Lib.Bytealg
import Derived.Lib.Hide
import Derived.Lib.IndexMore
import Derived.Lib.ItoaNum
import Derived.Lib.SliceRun
import Derived.LoopTactic
import Derived.Maps.AppendAt
import Derived.Outline
import Derived.OwnWalk
import Derived.RegionTactic
import Derived.Test.YtmalkppcahogjaaGreatDoorProg
import Derived.WalkKit
import Derived.WalkLawsBesides
import Derived.WalkSpells
set_option linter.unusedVariables false
set_option linter.unusedSimpArgs false
set_option maxHeartbeats 8000000
set_option maxRecDepth 100000
namespace Go.Proofs.YtmalkppcahogjaaGreatDoor
open Lib (hid)
open Go.Proofs.Tryz (prog)
open Go.RowKit
def Whole(w:World)(g:Nat)(t:TypeId)(cs:List Value):Prop:=w.heap[g]? = some (.cells cs.toArray t (0,0))
structure Fr(S:List Nat)(a b:World):Prop where
 os:b.os=a.os
 tape:b.tape=a.tape
 output:b.output=a.output
 size:a.heap.size≤b.heap.size
 block:∀k,k < a.heap.size→k∉S→b.heap[k]? = a.heap[k]?
section
variable {a b c w w':World} {S T:List Nat} {g:Nat} {t:TypeId} {cs:List Value}
theorem Fr.refl(S:List Nat)(w:World):Fr S w w:=⟨rfl,rfl,rfl,Nat.le_refl _,fun _ _ _=>rfl⟩
theorem Fr.trans(h:Fr S a b)(k:Fr S b c):Fr S a c:=
 ⟨k.os.trans h.os,k.tape.trans h.tape,k.output.trans h.output,Nat.le_trans h.size k.size,fun i hi hn=>(k.block i (Nat.lt_of_lt_of_le hi h.size) hn).trans (h.block i hi hn)⟩
theorem Fr.more(h:Fr S a b)(hs:∀k,k∈S→k∈T∨a.heap.size≤k):Fr T a b:=
 ⟨h.os,h.tape,h.output,h.size,fun i hi hn=>h.block i hi (fun hm=>by
  rcases hs i hm with hT|hT
  ·exact hn hT
  ·omega)⟩
theorem Fr.up(h:Fr [] a b):Fr T a b:=h.more (fun k hk=>absurd hk (by simp))
theorem Fr.step(h:Fr S a b)(k:Fr T b c)(hT:∀x,x∈T→x∈S∨a.heap.size≤x):Fr S a c:=
 ⟨k.os.trans h.os,k.tape.trans h.tape,k.output.trans h.output,Nat.le_trans h.size k.size,fun i hi hn=>
  (k.block i (Nat.lt_of_lt_of_le hi h.size) (fun hm=>by
   rcases hT i hm with h1|h1
   ·exact hn h1
   ·omega)).trans (h.block i hi hn)⟩
theorem Fr.drew(h:Fr S a b):Fr S a b.drew:=⟨h.os,h.tape,h.output,h.size,h.block⟩
theorem Fr.drewN(h:Fr S a b)(n:Nat):Fr S a (b.drewN n):=⟨h.os,h.tape,h.output,h.size,h.block⟩
theorem Fr.alloc(h:Fr S a b)(o:Obj):Fr S a (b.alloc o):=
 ⟨h.os,h.tape,h.output,Nat.le_trans h.size (by simp),fun i hi hn=>(Below.heap_alloc b o i (Nat.lt_of_lt_of_le hi h.size)).trans (h.block i hi hn)⟩
theorem Fr.setCell(h:Fr S a b){p:Addr}(hp:p.block∈S∨a.heap.size≤p.block)(u:Value):Fr S a (b.setCell p u):=
 ⟨h.os,h.tape,h.output,by simpa[World.setCell] using h.size,fun i hi hn=>(Below.heap_setCell b p u i (by
  rintro rfl;rcases hp with hp|hp
  ·exact hn hp
  ·omega)).trans (h.block i hi hn)⟩
theorem Fr.grown(h:Fr S a b){row:Option Nat}(hg:b.grownBy c row)(hr:∀k,row=some k→k∈S∨a.heap.size≤k):Fr S a c:=
 ⟨hg.os.trans h.os,hg.tape.trans h.tape,hg.output.trans h.output,Nat.le_trans h.size hg.size,fun i hi hn=>(hg.block i (Nat.lt_of_lt_of_le hi h.size) (fun e=>by
  rcases hr i e.symm with h1|h1
  ·exact hn h1
  ·omega)).trans (h.block i hi hn)⟩
theorem Fr.of_below(h:Below a.heap.size a b):Fr S a b:=⟨h.os,h.tape,h.output,h.size,fun i hi _=>h.block i hi⟩
theorem Fr.below(h:Fr [] a b):Below a.heap.size a b:=⟨h.os,h.tape,h.output,h.size,fun i hi=>h.block i hi (by simp)⟩
theorem Fr.belowOf{B:Nat}(h:Fr S a b)(hB:B≤a.heap.size)(hS:∀k,k∈S→B≤k):Below B a b:=
 ⟨h.os,h.tape,h.output,h.size,fun i hi=>h.block i (by omega) (fun hm=>by have:=hS i hm;omega)⟩
theorem Fr.cell?(h:Fr S a b){p:Addr}(hp:p.block < a.heap.size)(hn:p.block∉S):b.cell? p=a.cell? p:=World.cell?_of_block (h.block _ hp hn)
theorem Fr.cell(h:Fr S a b){p:Addr}{v:Value}(hc:a.cell? p=some v)(hn:p.block∉S):b.cell? p=some v:=
 (h.cell? (World.block_lt_of_cell? a p hc) hn).trans hc
theorem Whole.lt(h:Whole w g t cs):g < w.heap.size:=by
 rcases Nat.lt_or_ge g w.heap.size with hlt|hge
 ·exact hlt
 ·unfold Whole at h;rw[Array.getElem?_eq_none hge] at h;cases h
theorem Whole.cell(h:Whole w g t cs)(i:Nat):w.cell? ⟨g,i,none⟩=cs[i]? := by
 rw[cell_of_row w g i cs.toArray t (0,0) h];simp
theorem Whole.frozen(h:Whole w g t cs)(i:Nat):w.frozen? ⟨g,i,none⟩=false:=by
 unfold Whole at h;simp[World.frozen?,h]
theorem Whole.new(w:World)(t:TypeId)(cs:List Value):Whole (w.alloc (.cells cs.toArray t)) w.heap.size t cs:=heap_alloc_new w _
theorem Whole.drew(h:Whole w g t cs):Whole w.drew g t cs:=h
theorem Whole.drewN(h:Whole w g t cs)(n:Nat):Whole (w.drewN n) g t cs:=h
theorem Whole.alloc(h:Whole w g t cs)(o:Obj):Whole (w.alloc o) g t cs:=(Below.heap_alloc w o g h.lt).trans h
theorem Whole.set_(h:Whole w g t cs)(i:Nat)(u:Value):Whole (w.setCell ⟨g,i,none⟩ u) g t (cs.set i u):=by
 unfold Whole at h ⊢;simp[World.setCell,Array.getElem?_modify,h,List.setIfInBounds_toArray]
theorem Whole.far(h:Whole w g t cs){p:Addr}(hp:g≠p.block)(u:Value):Whole (w.setCell p u) g t cs:=(Below.heap_setCell w p u g hp).trans h
theorem Whole.fr(h:Whole w g t cs)(hf:Fr S w w')(hn:g∉S):Whole w' g t cs:=(hf.block g h.lt hn).trans h
theorem Whole.f0{S:List Nat}{w w':World}{g t:Nat}{cs:List Value}(h:Whole w g t cs)(hf:Fr S w w')(hn:g∉S:=by simp):Whole w' g t cs:=h.fr hf hn
theorem Whole.grown{row:Option Nat}(h:Whole w g t cs)(hb:w.grownBy w' row)(hg:some g≠row):Whole w' g t cs:=(hb.block g h.lt hg).trans h
theorem Whole.ne_{g':Nat}{t':TypeId}{cs':List Value}(h:Whole w g t cs)(h':Whole w g' t' cs')(hne:t≠t'):g≠g':=by
 rintro rfl;unfold Whole at h h';rw[h] at h';injection h' with h'
 injection h' with _ ht
 exact hne ht
end
def Sl(w:World)(B size:Nat)(v:Value)(n:Nat)(xs:List Value):Prop:=
 ∃A c,v=.slice A n c∧xs.length=n * size∧n≤c∧c≤maxLen ∧
  (0 < n→∃b off,A=some ⟨b,off,none⟩∧b < B∧∀j u,xs[j]? = some u→w.cell? ⟨b,off+j,none⟩=some u)
section
variable {w w':World} {B B' size n:Nat} {v:Value} {xs:List Value} {S:List Nat}
theorem Sl.keep(h:Sl w B size v n xs)(hk:∀p:Addr,p.block < B→w'.cell? p=w.cell? p):Sl w' B size v n xs:=by
 obtain⟨A,c,e,hl,hc,hm,hr⟩:=h;refine⟨A,c,e,hl,hc,hm,fun hn=>?_⟩;obtain⟨b,off,e2,hb,hcell⟩:=hr hn;exact⟨b,off,e2,hb,fun j u hu=>(hk ⟨b,off+j,none⟩ hb).trans (hcell j u hu)⟩
theorem Sl.more(h:Sl w B size v n xs)(hB:B≤B'):Sl w B' size v n xs:=by
 obtain⟨A,c,e,hl,hc,hm,hr⟩:=h;refine⟨A,c,e,hl,hc,hm,fun hn=>?_⟩;obtain⟨b,off,e2,hb,hcell⟩:=hr hn;exact⟨b,off,e2,by omega,hcell⟩
theorem Sl.below(h:Sl w B size v n xs)(hb:Below B w w'):Sl w' B size v n xs:=h.keep fun _ hp=>hb.cell hp
theorem Sl.fr(h:Sl w B size v n xs)(hf:Fr S w w')(hB:B≤w.heap.size)(hS:∀k,k∈S→B≤k):Sl w' B size v n xs:=
 h.below (hf.belowOf hB hS)
theorem Sl.nil(w:World)(B size:Nat):Sl w B size (.slice none 0 0) 0 []:=⟨none,0,rfl,by simp,Nat.le_refl _,by simp[maxLen],fun h=>absurd h (by omega)⟩
end
theorem Fr.drewN_of(w:World)(n:Nat)(S:List Nat):Fr S w (w.drewN n):=(Fr.refl S w).drewN n
def z03(p:ByteArray)(i:Nat):Nat:=(p.data.toList.getD i 0).toNat
theorem z1k(p:ByteArray)(i:Nat)(h:i < p.size):(p[i]'h).toNat=z03 p i:=by
 have h':i < p.data.toList.length:=by simpa using h
 have:p.data.toList.getD i 0=p[i]:=by
  rw[List.getD_eq_getElem?_getD,List.getElem?_eq_getElem h'];rfl
 rw[z03,this]
theorem z1u(p:ByteArray)(i:Nat):z03 p i < 256:=UInt8.toNat_lt _
inductive Part where
 | star
 | any
 | lit (c:Nat)
 | cls (neg:Bool) (rs:List (Nat×Nat))
def z2j(rs:List (Nat×Nat))(c:Nat):Bool:=rs.any fun r=>decide (r.1≤c)&&decide (c≤r.2)
def Part.may:Part→Nat→Bool
 | .star,_=>false
 | .any,_=>true
 | .lit x,c=>decide (c=x)
 | .cls neg rs,c=>z2j rs c != neg
def z5x(p:ByteArray):Nat→Nat→Option (List (Nat×Nat)×Nat)
 | 0,_=>none
 | n+1,k=>
  if k < p.size then
   if z03 p k=93 then some ([],k)
   else if k+2 < p.size∧z03 p (k+1)=45∧z03 p (k+2)≠93 then
    if z03 p (k+2) < z03 p k then none
    else (z5x p n (k+3)).map fun x=>((z03 p k,z03 p (k+2)) :: x.1,x.2)
   else (z5x p n (k+1)).map fun x=>((z03 p k,z03 p k) :: x.1,x.2)
  else none
theorem zbe(p:ByteArray):∀(m n k:Nat),p.size+1≤n+k→p.size+1≤m+k→z5x p n k=z5x p m k:=by
 intro m
 induction m with
 | zero=>
  intro n k h1 h2;cases n with
  | zero=>rfl
  | succ n=>simp only[z5x];rw[if_neg (by omega)]
 | succ m ih=>
  intro n k h1 h2;cases n with
  | zero=>simp only[z5x];rw[if_neg (by omega)]
  | succ n=>
   simp only[z5x];rw[ih n (k+3) (by omega) (by omega),ih n (k+1) (by omega) (by omega)]
def cls(p:ByteArray)(k:Nat):Option (List (Nat×Nat)×Nat):=z5x p (p.size+2 - k) k
theorem z8d(p:ByteArray)(k:Nat):cls p k =
  if k < p.size then
   if z03 p k=93 then some ([],k)
   else if k+2 < p.size∧z03 p (k+1)=45∧z03 p (k+2)≠93 then
    if z03 p (k+2) < z03 p k then none
    else (cls p (k+3)).map fun x=>((z03 p k,z03 p (k+2)) :: x.1,x.2)
   else (cls p (k+1)).map fun x=>((z03 p k,z03 p k) :: x.1,x.2)
  else none:=by
 by_cases h:k < p.size
 ·obtain⟨m,hm⟩:∃m,p.size+2 - k=m+1:=⟨p.size+1 - k,by omega⟩;unfold cls;rw[hm];simp only[z5x];rw[zbe p (p.size+2 - (k+3)) m (k+3) (by omega) (by omega),zbe p (p.size+2 - (k+1)) m (k+1) (by omega) (by omega)]
 ·rw[if_neg h];unfold cls;cases p.size+2 - k with
  | zero=>rfl
  | succ m=>simp only[z5x];rw[if_neg h]
theorem q0s(p:ByteArray):∀(d k:Nat),p.size≤k+d→∀x,cls p k=some x→k≤x.2∧x.2 < p.size∧z03 p x.2=93:=by
 intro d
 induction d using Nat.strongRecOn with
 | _ d ih=>
  intro k hd x hx;rw[z8d] at hx;by_cases hk:k < p.size
  ·rw[if_pos hk] at hx;by_cases h1:z03 p k=93
   ·rw[if_pos h1] at hx;cases hx;exact⟨Nat.le_refl _,hk,h1⟩
   ·rw[if_neg h1] at hx;by_cases h2:k+2 < p.size∧z03 p (k+1)=45∧z03 p (k+2)≠93
    ·rw[if_pos h2] at hx;by_cases h3:z03 p (k+2) < z03 p k
     ·rw[if_pos h3] at hx;cases hx
     ·rw[if_neg h3] at hx;obtain⟨y,hy,rfl⟩:=Option.map_eq_some_iff.1 hx;have:=ih (d - 1) (by omega) (k+3) (by omega) y hy;exact⟨by show k≤y.2;omega,this.2⟩
    ·rw[if_neg h2] at hx;obtain⟨y,hy,rfl⟩:=Option.map_eq_some_iff.1 hx;have:=ih (d - 1) (by omega) (k+1) (by omega) y hy;exact⟨by show k≤y.2;omega,this.2⟩
  ·rw[if_neg hk] at hx;cases hx
def classAns(p:ByteArray)(k:Nat)(first:Bool):Nat×Bool:=
 match cls p k with
 | none=>(0,false)
 | some x=>(x.2,!(first&&x.1.isEmpty))
def z2x(p:ByteArray)(k:Nat):Option (Part×Nat):=
 if k < p.size then
  if z03 p k=42 then some (.star,k+1)
  else if z03 p k=63 then some (.any,k+1)
  else if z03 p k=91 then
   let neg:=decide (k+1 < p.size∧z03 p (k+1)=94)
   match cls p (if neg then k+2 else k+1) with
   | none=>none
   | some x=>if x.1.isEmpty then none else some (.cls neg x.1,x.2+1)
  else if z03 p k=92 then if k+1 < p.size then some (.lit (z03 p (k+1)),k+2) else none
  else some (.lit (z03 p k),k+1)
 else none
theorem zak{p:ByteArray}{k:Nat}{x:Part×Nat}(h:z2x p k=some x):k < x.2∧x.2≤p.size:=by
 unfold z2x at h;split at h
 ·split at h
  ·cases h;exact⟨by show k < k+1;omega,by show k+1≤_;omega⟩
  ·split at h
   ·cases h;exact⟨by show k < k+1;omega,by show k+1≤_;omega⟩
   ·split at h
    ·simp only at h;split at h
     ·cases h
     ·rename_i y hy;split at h
      ·cases h
      ·cases h;have:=q0s p p.size _ (by omega) y hy;refine⟨?_,by show y.2+1≤_;omega⟩;show k < y.2+1;split at this <;> omega
    ·split at h
     ·split at h
      ·cases h;exact⟨by show k < k+2;omega,by show k+2≤_;omega⟩
      ·cases h
     ·cases h;exact⟨by show k < k+1;omega,by show k+1≤_;omega⟩
 ·cases h
def z78(p:ByteArray):Nat→Nat→Option (List (Nat×Part))
 | 0,k=>if k < p.size then none else some []
 | n+1,k=>
  if k < p.size then
   match z2x p k with
   | none=>none
   | some x=>(z78 p n x.2).map ((k,x.1) :: ·)
  else some []
theorem zkx(p:ByteArray):∀(m n k:Nat),p.size≤n+k→p.size≤m+k→z78 p n k=z78 p m k:=by
 intro m
 induction m with
 | zero=>
  intro n k h1 h2;have hk:¬k < p.size:=by omega
  cases n with
  | zero=>rfl
  | succ n=>simp only[z78];rw[if_neg hk,if_neg hk]
 | succ m ih=>
  intro n k h1 h2;cases n with
  | zero=>
   have hk:¬k < p.size:=by omega
   simp only[z78];rw[if_neg hk,if_neg hk]
  | succ n=>
   simp only[z78];by_cases hk:k < p.size
   ·rw[if_pos hk,if_pos hk];cases h:z2x p k with
    | none=>rfl
    | some x=>
     have:=zak h;simp only;rw[ih n x.2 (by omega) (by omega)]
   ·rw[if_neg hk,if_neg hk]
def z2a(p:ByteArray)(k:Nat):Option (List (Nat×Part)):=z78 p (p.size - k) k
theorem z5r(p:ByteArray)(k:Nat):z2a p k =
  if k < p.size then
   match z2x p k with
   | none=>none
   | some x=>(z2a p x.2).map ((k,x.1) :: ·)
  else some []:=by
 unfold z2a;by_cases hk:k < p.size
 ·rw[if_pos hk];obtain⟨m,hm⟩:∃m,p.size - k=m+1:=⟨p.size - k - 1,by omega⟩;rw[hm];simp only[z78];rw[if_pos hk];cases h:z2x p k with
  | none=>rfl
  | some x=>
   have:=zak h;simp only;rw[zkx p (p.size - x.2) m x.2 (by omega) (by omega)]
 ·rw[if_neg hk,show p.size - k=0 by omega];simp only[z78];rw[if_neg hk]
theorem z9e(p:ByteArray):∀(n k:Nat) (l:List (Nat×Part)),z78 p n k=some l→l.length≤p.size - k
 | 0,k,l,h=>by
  simp only[z78] at h;split at h
  ·cases h
  ·cases h;simp
 | n+1,k,l,h=>by
  simp only[z78] at h;split at h
  ·cases hp:z2x p k with
   | none=>rw[hp] at h;cases h
   | some x=>
    rw[hp] at h;obtain⟨r,hr,rfl⟩:=Option.map_eq_some_iff.1 h;have h1:=z9e p n x.2 r hr;have h2:=zak hp;simp only[List.length_cons];omega
  ·cases h;simp
theorem zhy{p:ByteArray}{l:List (Nat×Part)}(h:z2a p 0=some l):l.length≤p.size:=by
 have:=z9e p _ 0 l h;omega
def okAt(p:ByteArray)(k:Nat):Bool:=(z2a p k).isSome
def z0y(p:ByteArray):Int:=if 60 < p.size then 2 else if okAt p 0 then 0 else 1
def z3d(P:Part)(f:Nat→Bool)(s:ByteArray):Nat→Bool
 | 0=>match P with
  | .star=>f 0
  | _=>false
 | i+1=>match P with
  | .star=>f (i+1)||z3d P f s i
  | _=>f i&&P.may (z03 s i)
def z3c(ps:List Part)(s:ByteArray):Nat→Bool:=ps.foldl (fun f P=>z3d P f s) (fun i=>decide (i=0))
theorem zgd(ps:List Part)(P:Part)(s:ByteArray):z3c (ps++[P]) s=z3d P (z3c ps s) s:=by simp[z3c]
theorem zfl{ps:List Part}{k:Nat}{P:Part}(h:ps[k]? = some P)(s:ByteArray):z3c (ps.take (k+1)) s=z3d P (z3c (ps.take k) s) s:=by
 rw[List.take_add_one,h,Option.toList_some,zgd]
theorem eqB(p s:ByteArray):(p.toList==s.toList)=decide (p=s):=by
 by_cases h:p=s
 ·subst h;simp
 ·have:p.toList≠s.toList:=fun e=>h (by
   have:=congrArg List.toArray e;cases p;cases s;simpa[ByteArray.toList_eq] using this)
  simp[h,this]
end Go.Proofs.YtmalkppcahogjaaGreatDoor
namespace Go.Proofs.YtmalkppcahogjaaGreatDoor
open Lib (hid)
open Go.Proofs.Tryz (prog)
structure Itm where
 kind:Int
 text:ByteArray
 list:List ByteArray
 pairs:List (ByteArray×ByteArray)
 scores:List (Int×ByteArray)
abbrev yIa(x:Itm)(A:Option Addr)(a:Nat)(B:Option Addr)(b:Nat)(C:Option Addr)(c:Nat):Array Value:=#[.int .i64 x.kind,.string x.text,.slice A x.list.length a,.slice B x.pairs.length b,.slice C x.scores.length c]
abbrev yIl(x:Itm)(A:Option Addr)(a:Nat)(B:Option Addr)(b:Nat)(C:Option Addr)(c:Nat):List Value:=[.int .i64 x.kind,.string x.text,.slice A x.list.length a,.slice B x.pairs.length b,.slice C x.scores.length c]
abbrev yIza:Array Value:=#[.int .i64 0,.string ⟨#[]⟩,.slice none 0 0,.slice none 0 0,.slice none 0 0]
abbrev yIzl:List Value:=[.int .i64 0,.string ⟨#[]⟩,.slice none 0 0,.slice none 0 0,.slice none 0 0]
abbrev yIc(w:World)(p:Nat)(x:Itm)(A:Option Addr)(a:Nat)(B:Option Addr)(b:Nat)(C:Option Addr)(c:Nat):Prop:=w.cell? ⟨p,0,none⟩=some (.int .i64 x.kind)∧w.cell? ⟨p,1,none⟩=some (.string x.text)∧w.cell? ⟨p,2,none⟩=some (.slice A x.list.length a)∧w.cell? ⟨p,3,none⟩=some (.slice B x.pairs.length b)∧w.cell? ⟨p,4,none⟩=some (.slice C x.scores.length c)
def z4k(a b:ByteArray):Int:=Lib.compareBytes a.data.toList b.data.toList
def zl1(a b:ByteArray)(i:Nat):Int:=Lib.compareBytes (a.data.toList.drop i) (b.data.toList.drop i)
theorem zom(a b:ByteArray):zl1 a b 0=z4k a b:=rfl
theorem z5g(a:ByteArray)(i:Nat)(h:i < a.size):∃x:UInt8,a.data.toList.drop i=x :: a.data.toList.drop (i+1)∧x.toNat=z03 a i:=by
 have hl:i < a.data.toList.length:=by simpa using h
 refine⟨a.data.toList[i],List.drop_eq_getElem_cons hl,?_⟩;unfold z03;rw[List.getD_eq_getElem?_getD,List.getElem?_eq_getElem hl];rfl
theorem znd(a b:ByteArray)(i:Nat)(ha:i < a.size)(hb:i < b.size):
  zl1 a b i=if z03 a i < z03 b i then -1 else if z03 b i < z03 a i then 1 else zl1 a b (i+1):=by
 obtain⟨x,hx,ex⟩:=z5g a i ha;obtain⟨y,hy,ey⟩:=z5g b i hb;unfold zl1;rw[hx,hy,←ex,←ey];rfl
theorem zqj(a b:ByteArray)(i:Nat)(ha:i≤a.size)(hb:i≤b.size)(h:¬(i < a.size∧i < b.size)):
  zl1 a b i=if a.size < b.size then -1 else if b.size < a.size then 1 else 0:=by
 unfold zl1;by_cases h1:i < a.size
 ·have e:b.size=i:=by omega
  obtain⟨x,hx,_⟩:=z5g a i h1;have hd:b.data.toList.drop i=[]:=List.drop_of_length_le (by simp;omega);rw[hx,hd,if_neg (by omega),if_pos (by omega)];rfl
 ·have e:a.size=i:=by omega
  have hd:a.data.toList.drop i=[]:=List.drop_of_length_le (by simp;omega);by_cases h2:i < b.size
  ·obtain⟨y,hy,_⟩:=z5g b i h2;rw[hd,hy,if_pos (by omega)];rfl
  ·have hd2:b.data.toList.drop i=[]:=List.drop_of_length_le (by simp;omega);rw[hd,hd2,if_neg (by omega),if_neg (by omega)];rfl
def z0i(n:Int):Bool:=decide (-999999999≤n)&&decide (n≤999999999)
def z04(l:List ByteArray):List Value:=l.map .string
def z0f(l:List (ByteArray×ByteArray)):List Value:=l.flatMap fun p=>[.string p.1,.string p.2]
def z07(l:List (Int×ByteArray)):List Value:=l.flatMap fun p=>[.int .i64 p.1,.string p.2]
def z0r(w:World)(B:Nat)(v:Value)(x:Itm):Prop:=
 ∃A1 c1 A2 c2 A3 c3,v=.agg #[.int .i64 x.kind,.string x.text,.slice A1 x.list.length c1,.slice A2 x.pairs.length c2,.slice A3 x.scores.length c3] ∧
  Sl w B 1 (.slice A1 x.list.length c1) x.list.length (z04 x.list)∧Sl w B 2 (.slice A2 x.pairs.length c2) x.pairs.length (z0f x.pairs)∧Sl w B 2 (.slice A3 x.scores.length c3) x.scores.length (z07 x.scores)
structure Itm.Small(x:Itm):Prop where
 kind:-9223372036854775808≤x.kind∧x.kind≤9223372036854775807
 text:x.text.size≤281474976710656
 list:x.list.length≤281474976710656
 pairs:x.pairs.length≤281474976710656
 scores:x.scores.length≤281474976710656
 texts:∀s∈x.list,s.size≤281474976710656
 fields:∀p∈x.pairs,p.1.size≤281474976710656∧p.2.size≤281474976710656
 members:∀p∈x.scores,(-9223372036854775808≤p.1∧p.1≤9223372036854775807)∧p.2.size≤281474976710656
theorem z1b(l:List ByteArray)(i:Nat)(s:ByteArray)(h:l[i]? = some s):(z04 l)[i]? = some (.string s):=by
 simp[z04,h]
theorem z74(l:List ByteArray):(z04 l).length=l.length:=by simp[z04]
theorem z0l:∀(l:List (ByteArray×ByteArray)) (i:Nat) (p:ByteArray×ByteArray),l[i]? = some p→(z0f l)[2 * i]? = some (.string p.1)∧(z0f l)[2 * i+1]? = some (.string p.2)
 | [],i,p,h=>by simp at h
 | q :: l,0,p,h=>by
  simp only[List.getElem?_cons_zero,Option.some.injEq] at h;subst h;exact⟨rfl,rfl⟩
 | q :: l,i+1,p,h=>by
  have:=z0l l i p (by simpa using h);rw[show 2 * (i+1)=2 * i+1+1 by omega];exact⟨by simpa[z0f] using this.1,by simpa[z0f] using this.2⟩
theorem z6l:∀l:List (ByteArray×ByteArray),(z0f l).length=2 * l.length
 | []=>rfl
 | q :: l=>by
  have:=z6l l;simp only[z0f,List.flatMap_cons,List.length_append,List.length_cons,List.length_nil] at this ⊢;omega
theorem z0a:∀(l:List (Int×ByteArray)) (i:Nat) (p:Int×ByteArray),l[i]? = some p→(z07 l)[2 * i]? = some (.int .i64 p.1)∧(z07 l)[2 * i+1]? = some (.string p.2)
 | [],i,p,h=>by simp at h
 | q :: l,0,p,h=>by
  simp only[List.getElem?_cons_zero,Option.some.injEq] at h;subst h;exact⟨rfl,rfl⟩
 | q :: l,i+1,p,h=>by
  have:=z0a l i p (by simpa using h);rw[show 2 * (i+1)=2 * i+1+1 by omega];exact⟨by simpa[z07] using this.1,by simpa[z07] using this.2⟩
theorem z5v:∀l:List (Int×ByteArray),(z07 l).length=2 * l.length
 | []=>rfl
 | q :: l=>by
  have:=z5v l;simp only[z07,List.flatMap_cons,List.length_append,List.length_cons,List.length_nil] at this ⊢;omega
theorem z0r.keep{w w':World}{B:Nat}{v:Value}{x:Itm}(h:z0r w B v x)(hk:∀p:Addr,p.block < B→w'.cell? p=w.cell? p):z0r w' B v x:=by
 obtain⟨A1,c1,A2,c2,A3,c3,e,h1,h2,h3⟩:=h;exact⟨A1,c1,A2,c2,A3,c3,e,h1.keep hk,h2.keep hk,h3.keep hk⟩
theorem z0r.fr{w w':World}{B:Nat}{S:List Nat}{v:Value}{x:Itm}(h:z0r w B v x)(hf:Fr S w w')(hB:B≤w.heap.size)(hS:∀k,k∈S→B≤k):z0r w' B v x:=
 h.keep fun _ hp=>(hf.belowOf hB hS).cell hp
theorem Sl.at_{w:World}{B size n c:Nat}{A:Option Addr}{xs:List Value}(h:Sl w B size (.slice A n c) n xs)(hn:0 < n):
  ∃b off,A=some ⟨b,off,none⟩∧b < B∧n≤c∧c≤maxLen∧∀j u,xs[j]? = some u→w.cell? ⟨b,off+j,none⟩=some u:=by
 obtain⟨A',c',e,hl,hc,hm,hr⟩:=h;cases e;obtain⟨b,off,e2,hb,hcell⟩:=hr hn;exact⟨b,off,e2,hb,hc,hm,hcell⟩
def z6k(x:Itm):Bool:=
 (x.kind==1||x.text.size==0)&&(x.kind==2||x.kind==3||x.list.length==0)&&(x.kind==4||x.pairs.length==0)&&(x.kind==5||x.scores.length==0)
def many(x:Itm):Nat:=x.list.length+x.pairs.length+x.scores.length
end Go.Proofs.YtmalkppcahogjaaGreatDoor
namespace Go.Proofs.YtmalkppcahogjaaGreatDoor
open Lib (hid)
open Go.Proofs.Tryz (prog)
open Go.RowKit
section
variable {w w':World} {base e size n:Nat} {v:Value} {xs:List Value}
theorem zae{b T:Nat}{cs:List Value}(h:w.ownsRow base e size v n xs)(hw:Whole w b T cs)(hT:T≠e):v.ownBlock≠some b:=by
 rcases h.2 with⟨rfl,_⟩|⟨g,cap,cur,rfl,_,hg,_⟩
 ·simp[Value.ownBlock]
 ·intro he;have:g=b:=by simpa[Value.ownBlock] using he
  subst this;unfold Whole at hw;rw[hg] at hw;injection hw with hw
  injection hw with _ ht
  exact hT ht.symm
theorem zxt{base' e' size' n':Nat}{v':Value}{xs':List Value}(h:w.ownsRow base e size v n xs)(h':w.ownsRow base' e' size' v' n' xs')(hT:e≠e'):v.ownBlock=none∨v.ownBlock≠v'.ownBlock:=by
 rcases h.2 with⟨rfl,_⟩|⟨g,cap,cur,rfl,_,hg,_⟩
 ·exact .inl rfl
 ·refine .inr fun he=>?_;rcases h'.2 with⟨rfl,_⟩|⟨g',cap',cur',rfl,_,hg',_⟩
  ·simp[Value.ownBlock] at he
  ·have:g=g':=by simpa[Value.ownBlock] using he
   subst this;rw[hg] at hg';injection hg' with hg'
   injection hg' with _ ht
   exact hT ht
theorem z0p{S:List Nat}(h:w.ownsRow base e size v n xs)(hf:Fr S w w')(hn:∀k,v.ownBlock=some k→k∉S):w'.ownsRow base e size v n xs:=by
 refine⟨h.1,?_⟩;rcases h.2 with hz|⟨g,cap,cur,rfl,hb,hgg,rest⟩
 ·exact .inl hz
 ·refine .inr ⟨g,cap,cur,rfl,hb,?_,rest⟩;rw[hf.block g (Array.getElem?_eq_some_iff.1 hgg).1 (hn g rfl)];exact hgg
theorem z22{p:Addr}(u:Value)(h:w.ownsRow base e size v n xs)(hn:v.ownBlock≠some p.block):(w.setCell p u).ownsRow base e size v n xs:=
 h.kept (row:=some p.block) ⟨rfl,rfl,rfl,by simp[World.setCell],fun k _ hk=>Below.heap_setCell _ _ _ _ (fun e=>hk (by simp[e]))⟩ (Or.inr hn)
theorem z0s(h:w.ownsRow base e size v n xs):Sl w w.heap.size size v n xs:=by
 rcases h.2 with⟨rfl,rfl⟩|⟨g,cap,cur,rfl,hb,hgg,hnc,hcm,hcs,ht⟩
 ·have:xs=[]:=List.eq_nil_of_length_eq_zero (by have:=h.1;omega);subst this;exact Sl.nil _ _ _
 ·exact⟨_,cap,rfl,h.1,hnc,hcm,fun _=>⟨g,0,rfl,(Array.getElem?_eq_some_iff.1 hgg).1,fun j u hu=>by
   have:=h.cells (g:=g) rfl j u hu;rw[Nat.zero_add];unfold Addr.add at this;split at this
   ·have e:j=0:=by assumption
    rw[e];exact this
   ·simpa using this⟩⟩
end
structure FrB(S:List Nat)(B:Nat)(a b:World):Prop where
 os:b.os=a.os
 tape:b.tape=a.tape
 output:b.output=a.output
 size:a.heap.size≤b.heap.size
 block:∀k,k < a.heap.size→k < B→k∉S→b.heap[k]? = a.heap[k]?
section
variable {a b c w w':World} {S T:List Nat} {B:Nat}
theorem Fr.toB(h:Fr S a b)(B:Nat):FrB S B a b:=⟨h.os,h.tape,h.output,h.size,fun k hk _ hn=>h.block k hk hn⟩
theorem FrB.trans(h:FrB S B a b)(k:FrB S B b c):FrB S B a c:=
 ⟨k.os.trans h.os,k.tape.trans h.tape,k.output.trans h.output,Nat.le_trans h.size k.size,fun i hi hB hn=>(k.block i (Nat.lt_of_lt_of_le hi h.size) hB hn).trans (h.block i hi hB hn)⟩
theorem FrB.more(h:FrB S B a b)(hs:∀k,k∈S→k∈T∨B≤k):FrB T B a b:=
 ⟨h.os,h.tape,h.output,h.size,fun i hi hB hn=>h.block i hi hB (fun hm=>by
  rcases hs i hm with hT|hT
  ·exact hn hT
  ·omega)⟩
theorem FrB.whole{g t:Nat}{cs:List Value}(h:FrB S B w w')(hw:Whole w g t cs)(hB:g < B)(hn:g∉S):Whole w' g t cs:=(h.block g hw.lt hB hn).trans hw
end
end Go.Proofs.YtmalkppcahogjaaGreatDoor
namespace Go.Proofs.YtmalkppcahogjaaGreatDoor
open Lib (hid)
open Go.Proofs.Tryz (prog)
open Go.Lib
def zjc(c:UInt8):Bool:=decide (48≤c.toNat)&&decide (c.toNat≤57)
def zhq(a:Nat)(l:List UInt8):Nat:=l.foldl (fun a c=>a * 10+(c.toNat - 48)) a
def zqx(l:List UInt8):Nat:=zhq 0 l
theorem zj1(a:Nat)(l:List UInt8)(c:UInt8):zhq a (l++[c])=zhq a l * 10+(c.toNat - 48):=by
 unfold zhq;rw[List.foldl_append];rfl
theorem zl2:∀(l:List UInt8) (a:Nat),a≤zhq a l
 | [],a=>Nat.le_refl _
 | c :: r,a=>by
  have:=zl2 r (a * 10+(c.toNat - 48));show a≤zhq (a * 10+(c.toNat - 48)) r;omega
theorem zp1:∀(l:List UInt8) (a:Nat),(∀c∈l,zjc c=true)→zhq a l < (a+1) * 10 ^ l.length
 | [],a,_=>by show a < (a+1) * 1;omega
 | c :: r,a,h=>by
  have hc:=h c (.head _);unfold zjc at hc;simp at hc;have:=zp1 r (a * 10+(c.toNat - 48)) (fun q hq=>h q (.tail _ hq));show zhq (a * 10+(c.toNat - 48)) r < (a+1) * 10 ^ (r.length+1);have h2:(a * 10+(c.toNat - 48)+1) * 10 ^ r.length≤((a+1) * 10) * 10 ^ r.length:=Nat.mul_le_mul_right _ (by omega);rw[Nat.pow_succ,Nat.mul_comm (10 ^ r.length) 10,←Nat.mul_assoc];omega
theorem zix{c:UInt8}(h:zjc c=true):UInt8.ofNat (48+(c.toNat - 48))=c:=by
 unfold zjc at h;simp at h;rw[show 48+(c.toNat - 48)=c.toNat by omega];simp
theorem z7u{k:Nat}(h:k < 10):(UInt8.ofNat (48+k)).toNat=48+k:=by
 rw[UInt8.toNat_ofNat'];omega
theorem zdk(u:Nat):∀c∈decDigits u,zjc c=true:=by
 induction u using Nat.strongRecOn with
 | _ u ih=>
  intro c hc;rw[decDigits] at hc;split at hc
  ·rename_i h;rw[List.mem_singleton] at hc;subst hc;unfold zjc;rw[z7u h];simp;omega
  ·rename_i h;rcases List.mem_append.1 hc with hc|hc
   ·exact ih (u / 10) (by omega) c hc
   ·rw[List.mem_singleton] at hc;subst hc;unfold zjc;rw[z7u (Nat.mod_lt _ (by decide))];simp;omega
theorem zk6(u:Nat):zqx (decDigits u)=u:=by
 induction u using Nat.strongRecOn with
 | _ u ih=>
  rw[decDigits];split
  ·rename_i h;show 0 * 10+((UInt8.ofNat (48+u)).toNat - 48)=u;rw[z7u h];omega
  ·rename_i h;unfold zqx;rw[zj1];have:=ih (u / 10) (by omega);unfold zqx at this;rw[this,z7u (Nat.mod_lt _ (by decide))];omega
theorem zmf(u:Nat):decDigits u≠[]:=by
 rw[decDigits];split <;> simp
theorem zvf(u:Nat)(hu:0 < u):∃c r,decDigits u=c :: r∧c.toNat≠48:=by
 induction u using Nat.strongRecOn with
 | _ u ih=>
  rw[decDigits];split
  ·rename_i h;exact⟨_,[],rfl,by rw[z7u h];omega⟩
  ·rename_i h;obtain⟨c,r,e,hc⟩:=ih (u / 10) (by omega) (by omega);exact⟨c,r++[UInt8.ofNat (48+u % 10)],by rw[e];rfl,hc⟩
theorem zlv:decDigits 0=[48]:=by rw[decDigits];rfl
theorem zqr:∀(n:Nat) (l:List UInt8),l.length=n→l≠[]→(∀c∈l,zjc c=true)→(∀c r,l=c :: r→c.toNat=48→r=[])→decDigits (zqx l)=l
 | 0,l,hn,hne,_,_=>absurd (List.eq_nil_of_length_eq_zero hn) hne
 | n+1,l,hn,hne,hd,hz=>by
  obtain⟨d,c,rfl⟩:∃d c,l=d++[c]:=⟨l.dropLast,l.getLast hne,(List.dropLast_concat_getLast hne).symm⟩;have hc:=hd c (by simp);have hcd:=hc;unfold zjc at hcd;simp at hcd;unfold zqx;rw[zj1];by_cases h0:d=[]
  ·subst h0;show decDigits (0 * 10+(c.toNat - 48))=[c];rw[decDigits,dif_pos (by omega),Nat.zero_mul,Nat.zero_add,zix hc]
  ·have hdd:∀q∈d,zjc q=true:=fun q hq=>hd q (List.mem_append.2 (.inl hq));obtain⟨q,r,rfl⟩:=List.exists_cons_of_ne_nil h0
   have hq48:q.toNat≠48:=fun e=>by
    have:=hz q (r++[c]) rfl e;simp at this
   have hqd:=hdd q (.head _);unfold zjc at hqd;simp at hqd
   have hpos:1≤zhq 0 (q :: r):=by
    have:=zl2 r (0 * 10+(q.toNat - 48));show 1≤zhq (0 * 10+(q.toNat - 48)) r;omega
   have ih:=zqr n (q :: r) (by simp at hn ⊢;omega) (by simp) hdd (fun c' r' e h48=>by
    injection e with e1 e2
    subst e1;exact absurd h48 hq48)
   unfold zqx at ih;rw[decDigits,dif_neg (by omega),show(zhq 0 (q :: r) * 10+(c.toNat - 48)) / 10=zhq 0 (q :: r) by omega,show(zhq 0 (q :: r) * 10+(c.toNat - 48)) % 10=c.toNat - 48 by omega,ih,zix hc]
def zyb(neg:Bool)(d:List UInt8):Option Nat:=
 if d.length=0∨9 < d.length∨(d.head? = some 48∧(1 < d.length∨neg=true)) then none else if d.all zjc=true then some (zqx d) else none
def z2z(l:List UInt8):Option Int:=
 if l.head? = some 45 then (zyb true (l.drop 1)).map (fun u:Nat=>-(u:Int)) else (zyb false l).map (fun u:Nat=>(u:Int))
theorem q0b{c:UInt8}:c.toNat=48↔c=48:=by
 constructor
 ·intro h;apply UInt8.toNat_inj.1;exact h
 ·rintro rfl;rfl
theorem zlg{neg:Bool}{d:List UInt8}{u:Nat}(h:zyb neg d=some u):d=decDigits u∧u≤999999999∧(neg=true→0 < u):=by
 unfold zyb at h;split at h
 ·cases h
 ·rename_i h1;split at h
  ·rename_i h2;injection h with h
   subst h;rw[List.all_eq_true] at h2;have hne:d≠[]:=fun e=>h1 (.inl (by rw[e];rfl))
   have hlen:d.length≤9:=by
    rcases Nat.lt_or_ge 9 d.length with h|h
    ·exact absurd (.inr (.inl h)) h1
    ·exact h
   have hv:=zqr d.length d rfl hne h2 (fun c r e h48=>by
    rcases Nat.lt_or_ge 1 d.length with hl|hl
    ·exact absurd (.inr (.inr ⟨by rw[e,q0b.1 h48];rfl,.inl hl⟩)) h1
    ·rw[e,List.length_cons] at hl;exact List.eq_nil_of_length_eq_zero (by omega))
   have hlt:=zp1 d 0 h2;have hp:(10:Nat) ^ d.length≤10 ^ 9:=Nat.pow_le_pow_right (by decide) hlen;refine⟨hv.symm,by unfold zqx;omega,fun hneg=>?_⟩;rcases Nat.eq_zero_or_pos (zqx d) with h0|h0
   ·rw[h0,zlv] at hv;exact absurd (.inr (.inr ⟨by rw[←hv];rfl,.inr hneg⟩)) h1
   ·exact h0
  ·cases h
theorem zfq{u:Nat}(h:u≤999999999):0 < (decDigits u).length∧(decDigits u).length≤9:=by
 refine⟨List.length_pos_iff.2 (zmf u),?_⟩;rw[decDigits_length];rcases Nat.lt_or_ge (nDigits u) 10 with h'|h'
 ·omega
 ·exfalso
  have:∀(k u:Nat),k+1≤nDigits u→0 < u→10 ^ k≤u:=by
   intro k
   induction k with
   | zero=>intro u _ hu;rw[Nat.pow_zero];exact hu
   | succ k ih=>
    intro u hk hu;by_cases h10:u < 10
    ·rw[nDigits_small h10] at hk;omega
    ·rw[nDigits_big h10] at hk;have:=ih (u / 10) (by omega) (by omega);rw[Nat.pow_succ];omega
  have h2:=this 9 u (by omega) (by
   rcases Nat.eq_zero_or_pos u with h0|h0
   ·rw[h0,nDigits_small (by decide)] at h';omega
   ·exact h0)
  omega
theorem zpp{neg:Bool}{u:Nat}(h:u≤999999999)(hn:neg=true→0 < u):zyb neg (decDigits u)=some u:=by
 have hl:=zfq h;unfold zyb;rw[if_neg,if_pos (List.all_eq_true.2 (zdk u)),zk6];rintro(h1|h1|⟨h1,h2⟩)
 ·omega
 ·omega
 ·rcases Nat.eq_zero_or_pos u with h0|h0
  ·rcases h2 with h2|h2
   ·rw[h0,zlv] at h2;simp at h2
   ·have:=hn h2;omega
  ·obtain⟨c,r,e,hc⟩:=zvf u h0;rw[e] at h1;simp at h1;exact hc (q0b.2 h1)
theorem ztf(u:Nat):(decDigits u).head? ≠ some 45:=by
 intro h;obtain⟨c,r,e⟩:=List.exists_cons_of_ne_nil (zmf u);rw[e] at h;simp at h;have:=zdk u c (by rw[e];exact .head _);rw[h] at this;exact absurd this (by decide)
theorem z4u{l:List UInt8}{v:Int}:z2z l=some v↔z0i v=true∧l=itoa v:=by
 unfold z2z;constructor
 ·intro h;split at h
  ·rename_i h45;obtain⟨u,hu,rfl⟩:=Option.map_eq_some_iff.1 h;obtain⟨e,hle,hpos⟩:=zlg hu;have:=hpos rfl;refine⟨by unfold z0i;simp;omega,?_⟩
   obtain⟨c,r,rfl⟩:∃c r,l=c :: r:=by
    cases l with
    | nil=>simp at h45
    | cons c r=>exact⟨c,r,rfl⟩
   simp at h45 e;subst h45;unfold itoa;rw[if_pos (by omega),e,show(-(u:Int)).natAbs=u by omega]
  ·obtain⟨u,hu,rfl⟩:=Option.map_eq_some_iff.1 h;obtain⟨e,hle,hpos⟩:=zlg hu;refine⟨by unfold z0i;simp;omega,?_⟩;unfold itoa;rw[if_neg (by omega),e,Int.toNat_natCast]
 ·rintro⟨hi,rfl⟩;unfold z0i at hi;simp at hi;unfold itoa;by_cases hv:v < 0
  ·rw[if_pos hv,if_pos (show(45 :: decDigits v.natAbs).head? = some (45:UInt8) from rfl)];show(zyb true (decDigits v.natAbs)).map _=some v;rw[zpp (by omega) (fun _=>by omega)];simp;omega
  ·rw[if_neg hv,if_neg (ztf _),zpp (by omega) (fun h=>by cases h)];simp;omega
theorem zlw:∀(l:List UInt8) (a:Nat),(∀c∈l,zjc c=true)→zhq a l≤1000000000000000000→parseUint10 a l=.ok (zhq a l)
 | [],a,_,_=>rfl
 | c :: r,a,h,hv=>by
  have hc:=h c (.head _);unfold zjc at hc;simp at hc;have h1:zhq a (c :: r)=zhq (a * 10+(c.toNat - 48)) r:=rfl;have h2:=zl2 r (a * 10+(c.toNat - 48));rw[h1] at hv ⊢;rw[parseUint10,if_pos hc,if_neg (by omega),if_neg (by omega)];exact zlw r _ (fun q hq=>h q (.tail _ hq)) hv
theorem zj5{u:Nat}(h:u≤999999999):parseMag (decDigits u)=.ok u:=by
 unfold parseMag;rw[if_neg (zmf u)];have:=zlw (decDigits u) 0 (zdk u) (by have:=zk6 u;unfold zqx at this;omega);have h2:=zk6 u;unfold zqx at h2;rw[h2] at this;exact this
theorem zhu{v:Int}(h:z0i v=true):atoiAll (itoa v)=.ok v:=by
 unfold z0i at h;simp at h;unfold itoa;by_cases hv:v < 0
 ·rw[if_pos hv];unfold atoiAll;simp only[show(45:UInt8).toNat=45 from rfl,true_or,or_true,if_true];rw[zj5 (by omega)];simp only[not_true,false_and,if_false,true_and];rw[if_neg (by omega)];congr 1;omega
 ·rw[if_neg hv];obtain⟨c,r,e⟩:=List.exists_cons_of_ne_nil (zmf v.toNat);have hd:=zdk v.toNat c (by rw[e];exact .head _);unfold zjc at hd;simp at hd;have hp:=zj5 (u:=v.toNat) (by omega);rw[e] at hp ⊢;unfold atoiAll;simp only;rw[if_neg (by omega),hp];simp;rw[if_neg (by omega),if_neg (by omega),if_neg (by omega)];congr 1;omega
theorem zh0{l:List UInt8}{v:Int}(h:atoiAll l=.ok v):z2z l=if itoa v=l∧z0i v=true then some v else none:=by
 by_cases hc:itoa v=l∧z0i v=true
 ·rw[if_pos hc];exact z4u.2 ⟨hc.2,hc.1.symm⟩
 ·rw[if_neg hc];cases hi:z2z l with
  | none=>rfl
  | some u=>
   obtain⟨h1,h2⟩:=z4u.1 hi;have:=zhu h1;rw[←h2,h] at this;injection this with this
   subst this;exact absurd ⟨h2.symm,h1⟩ hc
theorem zm1{l:List UInt8}(h:∀v,atoiAll l≠.ok v):z2z l=none:=by
 cases hi:z2z l with
 | none=>rfl
 | some u=>
  obtain⟨h1,h2⟩:=z4u.1 hi;exact absurd (by rw[h2];exact zhu h1) (h u)
theorem zcd{v:Int}(h:z0i v=true):0 < (itoa v).length∧(itoa v).length≤10:=by
 unfold z0i at h;simp at h;unfold itoa;by_cases hv:v < 0
 ·rw[if_pos hv];have:=zfq (u:=v.natAbs) (by omega);rw[List.length_cons];omega
 ·rw[if_neg hv];have:=zfq (u:=v.toNat) (by omega);omega
end Go.Proofs.YtmalkppcahogjaaGreatDoor
namespace Go.Proofs.YtmalkppcahogjaaGreatDoor
open Lib (hid)
open Go.Proofs.Tryz (prog)
def toB(l:List UInt8):ByteArray:=⟨l.toArray⟩
theorem z2q(l:List UInt8):(toB l).size=l.length:=by show l.toArray.size=_;simp
theorem z30(l:List UInt8):(toB l).data.toList=l:=by simp[toB]
theorem zev(b:ByteArray):toB b.data.toList=b:=by cases b;simp[toB]
def zon(w:List UInt8):List UInt8→List UInt8×List UInt8×Int
 | []=>([],[],8)
 | [x]=>if x.toNat=13 then ([],[],8) else ([],[],1)
 | x :: y :: u=>if x.toNat=13 then (if y.toNat=10 then (w,u,0) else ([],[],1)) else ([],[],1)
def q0e(l:List ByteArray):Prop:=0 < l.length∧l.length≤12∧∀s∈l,s.size≤60
theorem zxr{u:Nat}(h:u < 100):(u < 10∧Lib.decDigits u=[UInt8.ofNat (48+u)])∨(10≤u∧Lib.decDigits u=[UInt8.ofNat (48+u / 10),UInt8.ofNat (48+u % 10)]):=by
 by_cases h1:u < 10
 ·exact .inl ⟨h1,by rw[Lib.decDigits,dif_pos h1]⟩
 ·refine .inr ⟨by omega,?_⟩;rw[Lib.decDigits,dif_neg h1,Lib.decDigits,dif_pos (by omega)];rfl
structure Rp1 where
 kind:Int
 text:ByteArray
 n:Int
 sub:Nat
structure Rep where
 kind:Int
 text:ByteArray
 n:Int
 list:List Rp1
abbrev yRa(x:Rep)(A:Option Addr)(a:Nat):Array Value:=#[.int .i64 x.kind,.string x.text,.int .i64 x.n,.slice A x.list.length a]
abbrev yRl(x:Rep)(A:Option Addr)(a:Nat):List Value:=[.int .i64 x.kind,.string x.text,.int .i64 x.n,.slice A x.list.length a]
abbrev yRza:Array Value:=#[.int .i64 0,.string ⟨#[]⟩,.int .i64 0,.slice none 0 0]
abbrev yRzl:List Value:=[.int .i64 0,.string ⟨#[]⟩,.int .i64 0,.slice none 0 0]
abbrev yRc(w:World)(p:Nat)(x:Rep)(A:Option Addr)(a:Nat):Prop:=w.cell? ⟨p,0,none⟩=some (.int .i64 x.kind)∧w.cell? ⟨p,1,none⟩=some (.string x.text)∧w.cell? ⟨p,2,none⟩=some (.int .i64 x.n)∧w.cell? ⟨p,3,none⟩=some (.slice A x.list.length a)
def Rep.one(r:Rep):Rp1:=⟨r.kind,r.text,r.n,r.list.length⟩
def zpi:Rep:=⟨0,⟨#[]⟩,0,[]⟩
def Rp1.rep(x:Rp1):Rep:=⟨x.kind,x.text,x.n,[]⟩
def zp7(c:Nat):Bool:=(decide (97≤c)&&decide (c≤122))||(decide (65≤c)&&decide (c≤90))||(decide (48≤c)&&decide (c≤57))||decide (c=32)
def zif(s:ByteArray):Bool:=s.data.toList.all fun c=>zp7 c.toNat
def z1d(x:Rp1):Int:=
 if ¬(1≤x.kind∧x.kind≤5) then 7
 else if (x.kind≠1∧x.kind≠4∧x.text.size≠0)∨(x.kind≠2∧x.kind≠3∧x.n≠0)∨0 < x.sub then 1
 else if x.kind=1 then (if 20 < x.text.size then 2 else if x.text.size=0 then 1 else if zif x.text=true then 0 else 1)
 else if x.kind=2 then (if 1≤x.n∧x.n≤8 then 0 else 3)
 else if x.kind=3 then (if z0i x.n=true then 0 else 3)
 else if x.kind=4 then (if 60 < x.text.size then 2 else 0)
 else 0
def z3s:List Rp1→Int
 | []=>0
 | x :: l=>if z1d x≠0 then z1d x else z3s l
def z0d(r:Rep):Int:=
 if r.kind≠6 then z1d r.one
 else if r.text.size≠0∨r.n≠0 then 1
 else if 300 < r.list.length then 2
 else z3s r.list
theorem zgl{l:List Rp1}{k:Nat}{x:Rp1}(h:l[k]? = some x):z3s (l.drop k)=if z1d x≠0 then z1d x else z3s (l.drop (k+1)):=by
 have hk:=(List.getElem?_eq_some_iff.1 h).1
 have e1:l.drop k=x :: l.drop (k+1):=by
  rw[List.drop_eq_getElem_cons hk];congr 1;rw[List.getElem?_eq_getElem hk] at h;exact Option.some.inj h
 rw[e1];rfl
theorem zcp:∀ {l:List Rp1},z3s l=0→∀x∈l,z1d x=0
 | [],_,x,h=>by cases h
 | y :: l,hc,x,h=>by
  unfold z3s at hc;by_cases hy:z1d y=0
  ·rw[if_neg (by simpa using hy)] at hc;rcases List.mem_cons.1 h with rfl|h
   ·exact hy
   ·exact zcp hc x h
  ·rw[if_pos hy] at hc;exact absurd hc hy
theorem ze0:∀ {l:List Rp1},(∀x∈l,z1d x=0)→z3s l=0
 | [],_=>rfl
 | y :: l,h=>by
  unfold z3s;rw[if_neg (by simpa using h y (by simp))];exact ze0 fun x hx=>h x (by simp[hx])
structure z7q(x:Rp1):Prop where
 kind:1≤x.kind∧x.kind≤5
 sub:x.sub=0
 text:x.kind≠1→x.kind≠4→x.text=⟨#[]⟩
 num:x.kind≠2→x.kind≠3→x.n=0
 word:x.kind=1→x.text.size≤20∧x.text.size≠0∧zif x.text=true
 err:x.kind=2→1≤x.n∧x.n≤8
 int:x.kind=3→z0i x.n=true
 bytes:x.kind=4→x.text.size≤60
theorem nilB{t:ByteArray}(h:t.size=0):t=⟨#[]⟩:=by
 apply ByteArray.ext;exact Array.eq_empty_of_size_eq_zero h
theorem zh2{x:Rp1}(h:z1d x=0):z7q x:=by
 unfold z1d at h;by_cases hk:1≤x.kind∧x.kind≤5
 ·rw[if_neg (fun hn=>hn hk)] at h;by_cases hb:(x.kind≠1∧x.kind≠4∧x.text.size≠0)∨(x.kind≠2∧x.kind≠3∧x.n≠0)∨0 < x.sub
  ·rw[if_pos hb] at h;exact absurd h (by decide)
  ·rw[if_neg hb] at h
   have hs:x.sub=0:=by
    rcases Nat.eq_zero_or_pos x.sub with h0|h0
    ·exact h0
    ·exact absurd (.inr (.inr h0)) hb
   refine⟨hk,hs,fun h1 h4=>?_,fun h2 h3=>?_,fun h1=>?_,fun h2=>?_,fun h3=>?_,fun h4=>?_⟩
   ·apply nilB;by_cases hz:x.text.size=0
    ·exact hz
    ·exact absurd (.inl ⟨h1,h4,hz⟩) hb
   ·by_cases hz:x.n=0
    ·exact hz
    ·exact absurd (.inr (.inl ⟨h2,h3,hz⟩)) hb
   ·rw[if_pos h1] at h;by_cases h20:20 < x.text.size
    ·rw[if_pos h20] at h;exact absurd h (by decide)
    ·rw[if_neg h20] at h;by_cases h0:x.text.size=0
     ·rw[if_pos h0] at h;exact absurd h (by decide)
     ·rw[if_neg h0] at h;by_cases hw:zif x.text=true
      ·exact⟨by omega,h0,hw⟩
      ·rw[if_neg hw] at h;exact absurd h (by decide)
   ·rw[if_neg (by omega),if_pos h2] at h;by_cases hr:1≤x.n∧x.n≤8
    ·exact hr
    ·rw[if_neg hr] at h;exact absurd h (by decide)
   ·rw[if_neg (by omega),if_neg (by omega),if_pos h3] at h;by_cases hr:z0i x.n=true
    ·exact hr
    ·rw[if_neg hr] at h;exact absurd h (by decide)
   ·rw[if_neg (by omega),if_neg (by omega),if_neg (by omega),if_pos h4] at h;by_cases hr:60 < x.text.size
    ·rw[if_pos hr] at h;exact absurd h (by decide)
    ·omega
 ·rw[if_pos hk] at h;exact absurd h (by decide)
theorem zd8{r:Rep}(h:z0d r=0):(r.kind≠6∧z7q r.one∧r.list=[])∨(r.kind=6∧r.text=⟨#[]⟩∧r.n=0∧r.list.length≤300∧∀x∈r.list,z7q x):=by
 unfold z0d at h;by_cases hk:r.kind=6
 ·rw[if_neg (fun hn=>hn hk)] at h;by_cases hb:r.text.size≠0∨r.n≠0
  ·rw[if_pos hb] at h;exact absurd h (by decide)
  ·rw[if_neg hb] at h;by_cases hl:300 < r.list.length
   ·rw[if_pos hl] at h;exact absurd h (by decide)
   ·rw[if_neg hl] at h;refine .inr ⟨hk,nilB ?_,?_,by omega,fun x hx=>zh2 (zcp h x hx)⟩
    ·by_cases hz:r.text.size=0
     ·exact hz
     ·exact absurd (.inl hz) hb
    ·by_cases hz:r.n=0
     ·exact hz
     ·exact absurd (.inr hz) hb
 ·rw[if_pos hk] at h;have:=zh2 h;exact .inl ⟨hk,this,List.eq_nil_of_length_eq_zero this.sub⟩
def z2g(x:Rp1):List UInt8:=
 if x.kind=1 then 43 :: (x.text.data.toList++[13,10])
 else if x.kind=2 then 45 :: (Lib.itoa x.n++[13,10])
 else if x.kind=3 then 58 :: (Lib.itoa x.n++[13,10])
 else if x.kind=4 then 36 :: (Lib.decDigits x.text.size++13 :: 10 :: (x.text.data.toList++[13,10]))
 else [36,45,49,13,10]
def za0(r:Rep):List UInt8:=if r.kind=6 then 42 :: (Lib.decDigits r.list.length++13 :: 10 :: r.list.flatMap z2g) else z2g r.one
def z5p:List UInt8→Option (List UInt8×List UInt8)
 | []=>none
 | [_]=>none
 | x :: y :: r=>if x.toNat=13∧y.toNat=10 then some ([],r) else (z5p (y :: r)).map fun p=>(x :: p.1,p.2)
theorem zcu:∀ {l a b:List UInt8},z5p l=some (a,b)→l=a++13 :: 10 :: b
 | [],a,b,h=>by cases h
 | [_],a,b,h=>by cases h
 | x :: y :: r,a,b,h=>by
  unfold z5p at h;by_cases hx:x.toNat=13∧y.toNat=10
  ·rw[if_pos hx] at h;cases h;have e1:x=13:=UInt8.toNat_inj.1 hx.1;have e2:y=10:=UInt8.toNat_inj.1 hx.2;rw[e1,e2];rfl
  ·rw[if_neg hx] at h;obtain⟨p,hp,he⟩:=Option.map_eq_some_iff.1 h;cases he;have:=zcu (a:=p.1) (b:=p.2) (l:=y :: r) hp;rw[this];rfl
theorem z6q:∀(a b:List UInt8),(∀c∈a,c.toNat≠13)→z5p (a++13 :: 10 :: b)=some (a,b)
 | [],b,_=>by
  show(if (13:UInt8).toNat=13∧(10:UInt8).toNat=10 then some ([],b) else _)=_;rw[if_pos ⟨by decide,by decide⟩]
 | x :: a,b,h=>by
  have ih:=z6q a b (fun c hc=>h c (by simp[hc]));have hx:=h x (by simp);cases a with
  | nil=>
   show(if x.toNat=13∧(13:UInt8).toNat=10 then _ else (z5p (13 :: 10 :: b)).map _)=_;rw[if_neg (fun h=>hx h.1)];rw[List.nil_append] at ih;rw[ih];rfl
  | cons y a=>
   show(if x.toNat=13∧y.toNat=10 then _ else (z5p (y :: (a++13 :: 10 :: b))).map _)=_;rw[if_neg (fun h=>hx h.1)];rw[List.cons_append] at ih;rw[ih];rfl
theorem zh8:∀(l:List UInt8),match z5p l with|none=>Lib.index l [13,10]=-1|some p=>Lib.index l [13,10]=p.1.length
 | []=>rfl
 | [x]=>by
  show Lib.index [x] [13,10]=-1;unfold Lib.index;rw[if_neg (by simp[List.isPrefixOf]),if_pos (by rfl)]
 | x :: y :: r=>by
  have ih:=zh8 (y :: r)
  have e1:List.isPrefixOf [13,10] (x :: y :: r)=decide (x.toNat=13∧y.toNat=10):=by
   show((13:UInt8)==x&&((10:UInt8)==y&&true))=_;rw[Bool.eq_iff_iff];simp only[Bool.and_true,Bool.and_eq_true,beq_iff_eq,decide_eq_true_eq];constructor
   ·rintro⟨rfl,rfl⟩;exact⟨by decide,by decide⟩
   ·rintro⟨h1,h2⟩;exact⟨(UInt8.toNat_inj.1 h1).symm,(UInt8.toNat_inj.1 h2).symm⟩
  by_cases h:x.toNat=13∧y.toNat=10
  ·have e2:z5p (x :: y :: r)=some ([],r):=if_pos h;rw[e2];show Lib.index (x :: y :: r) [13,10]=0;unfold Lib.index;rw[e1,if_pos (decide_eq_true h)]
  ·have e2:z5p (x :: y :: r)=(z5p (y :: r)).map fun p=>(x :: p.1,p.2):=if_neg h
   have e3:Lib.index (x :: y :: r) [13,10]=if Lib.index (y :: r) [13,10]==-1 then -1 else Lib.index (y :: r) [13,10]+1:=by
    conv=>lhs;unfold Lib.index
    rw[e1,if_neg (by simpa using h)]
   rw[e2,e3];rcases hc:z5p (y :: r) with _|p
   ·rw[hc] at ih;simp only at ih;rw[ih];rfl
   ·rw[hc] at ih;simp only at ih;show(if Lib.index (y :: r) [13,10]==-1 then (-1:Int) else Lib.index (y :: r) [13,10]+1)=((x :: p.1).length:Int);rw[ih,if_neg (by rw[beq_iff_eq];omega),List.length_cons];omega
theorem zy4(l:List UInt8):Lib.cut l [13,10]=match z5p l with|none=>(l,[],false)|some p=>(p.1,p.2,true):=by
 have h:=zh8 l;unfold Lib.cut;rcases hc:z5p l with _|p
 ·rw[hc] at h;simp only at h;rw[h,if_neg (by decide)]
 ·rw[hc] at h;simp only at h;have hl:=zcu (a:=p.1) (b:=p.2) hc;rw[h,if_pos (by omega),Int.toNat_natCast];have e1:l.take p.1.length=p.1:=by rw[hl];exact List.take_left
  have e2:l.drop (p.1.length+2)=p.2:=by
   rw[hl,←List.drop_drop,List.drop_left];rfl
  show(l.take p.1.length,l.drop (p.1.length+2),true)=_;rw[e1,e2]
def z7y:List UInt8→Option (Rp1×List UInt8)
 | []=>none
 | c :: r=>(z5p r).bind fun p=>
  if c.toNat=43 then some (⟨1,toB p.1,0,0⟩,p.2)
  else if c.toNat=45 then (z2z p.1).map fun n=>(⟨2,⟨#[]⟩,n,0⟩,p.2)
  else if c.toNat=58 then (z2z p.1).map fun n=>(⟨3,⟨#[]⟩,n,0⟩,p.2)
  else if c.toNat=36 then (z2z p.1).bind fun n=>
   if n=-1 then some (⟨5,⟨#[]⟩,0,0⟩,p.2)
   else if n < 0 then none
   else if (zon (p.2.take n.toNat) (p.2.drop n.toNat)).2.2=0 then some (⟨4,toB (p.2.take n.toNat),0,0⟩,(p.2.drop n.toNat).drop 2) else none
  else none
def zmv:Nat→List UInt8→List Rp1→Option (List Rp1×List UInt8)
 | 0,l,acc=>some (acc,l)
 | k+1,l,acc=>(z7y l).bind fun p=>zmv k p.2 (acc++[p.1])
def zxc(l:List UInt8)(n:Int):Option (Rep×List UInt8):=if n < 0 then none else (zmv n.toNat l []).map fun q=>(⟨6,⟨#[]⟩,0,q.1⟩,q.2)
def za9(r:List UInt8):Option (Rep×List UInt8):=(z5p r).bind fun p=>(z2z p.1).bind fun n=>zxc p.2 n
def zov:List UInt8→Option (Rep×List UInt8)
 | []=>none
 | c :: r=>if c.toNat=42 then za9 r else (z7y (c :: r)).map fun p=>(p.1.rep,p.2)
theorem zz4(r:List UInt8):zov (42 :: r)=za9 r:=by
 show(if (42:UInt8).toNat=42 then za9 r else (z7y (42 :: r)).map fun p=>(p.1.rep,p.2))=za9 r;rw[if_pos (by decide)]
def z62(l:List UInt8):Option Rep:=match zov l with
 | some (r,[])=>some r
 | _=>none
def zvq(l:List UInt8):Int:=match z62 l with
 | none=>1
 | some r=>z0d r
def ztk(l:List UInt8):Rep:=match z62 l with
 | none=>zpi
 | some r=>if z0d r=0 then r else zpi
theorem zlo{u:Nat}:∀c∈Lib.decDigits u,c.toNat≠13:=fun c hc=>by
 have:=zdk u c hc;unfold zjc at this;simp at this;omega
theorem z7e{n:Int}:∀c∈Lib.itoa n,c.toNat≠13:=fun c hc=>by
 unfold Lib.itoa at hc;split at hc
 ·rcases List.mem_cons.1 hc with rfl|hc
  ·decide
  ·exact zlo c hc
 ·exact zlo c hc
theorem zq6{s:ByteArray}(h:zif s=true):∀c∈s.data.toList,c.toNat≠13:=fun c hc h13=>by
 have:=List.all_eq_true.1 h c hc;rw[h13] at this;exact absurd this (by decide)
theorem zlp(n:Nat):Lib.itoa (n:Int)=Lib.decDigits n:=by
 unfold Lib.itoa;rw[if_neg (by omega)];simp
theorem z9i{n:Int}(h:z0i n=true):z2z (Lib.itoa n)=some n:=z4u.2 ⟨h,rfl⟩
theorem z7v{n:Int}(h:-100000≤n∧n≤100000):z0i n=true:=by
 unfold z0i;rw[decide_eq_true (by omega),decide_eq_true (by omega)];rfl
theorem zis{x:Rp1}(h:z7q x)(m:List UInt8):z7y (z2g x++m)=some (x,m):=by
 obtain⟨k,t,n,sub⟩:=x;have hs:sub=0:=h.sub;subst hs;have hk:1≤k∧k≤5:=h.kind;have hd:k=1∨k=2∨k=3∨k=4∨k=5:=by omega
 rcases hd with rfl|rfl|rfl|rfl|rfl
 ·have hw:=h.word rfl;have hn:n=0:=h.num (show ¬(1:Int)=2 by decide) (show ¬(1:Int)=3 by decide);subst hn;have e:z2g ⟨1,t,0,0⟩++m=43 :: (t.data.toList++13 :: 10 :: m):=by show 43 :: (t.data.toList++[13,10])++m=_;simp
  rw[e];show(z5p (t.data.toList++13 :: 10 :: m)).bind _=_;rw[z6q _ _ (zq6 hw.2.2),Option.bind_some];simp only;rw[if_pos (show(43:UInt8).toNat=43 by decide),zev]
 ·have ht:t=⟨#[]⟩:=h.text (show ¬(2:Int)=1 by decide) (show ¬(2:Int)=4 by decide);subst ht;have hr:=h.err rfl;have e:z2g ⟨2,⟨#[]⟩,n,0⟩++m=45 :: (Lib.itoa n++13 :: 10 :: m):=by show 45 :: (Lib.itoa n++[13,10])++m=_;simp
  rw[e];show(z5p (Lib.itoa n++13 :: 10 :: m)).bind _=_;rw[z6q _ _ z7e];rw[Option.bind_some];simp only;rw[if_neg (show ¬(45:UInt8).toNat=43 by decide),if_pos (show(45:UInt8).toNat=45 by decide),z9i (z7v (by have:1≤n∧n≤8:=hr;omega))];rfl
 ·have ht:t=⟨#[]⟩:=h.text (show ¬(3:Int)=1 by decide) (show ¬(3:Int)=4 by decide);subst ht;have e:z2g ⟨3,⟨#[]⟩,n,0⟩++m=58 :: (Lib.itoa n++13 :: 10 :: m):=by show 58 :: (Lib.itoa n++[13,10])++m=_;simp
  rw[e];show(z5p (Lib.itoa n++13 :: 10 :: m)).bind _=_;rw[z6q _ _ z7e];rw[Option.bind_some];simp only;rw[if_neg (show ¬(58:UInt8).toNat=43 by decide),if_neg (show ¬(58:UInt8).toNat=45 by decide),if_pos (show(58:UInt8).toNat=58 by decide),z9i (h.int rfl)];rfl
 ·have hn:n=0:=h.num (show ¬(4:Int)=2 by decide) (show ¬(4:Int)=3 by decide);subst hn;have h60:t.size≤60:=h.bytes rfl;have hl:t.data.toList.length=t.size:=by simp
  have e:z2g ⟨4,t,0,0⟩++m=36 :: (Lib.itoa (t.size:Int)++13 :: 10 :: (t.data.toList++13 :: 10 :: m)):=by
   show 36 :: (Lib.decDigits t.size++13 :: 10 :: (t.data.toList++[13,10]))++m=_;rw[zlp];simp
  rw[e];show(z5p (Lib.itoa (t.size:Int)++13 :: 10 :: (t.data.toList++13 :: 10 :: m))).bind _=_;rw[z6q _ _ z7e];rw[Option.bind_some];simp only;rw[if_neg (show ¬(36:UInt8).toNat=43 by decide),if_neg (show ¬(36:UInt8).toNat=45 by decide),if_neg (show ¬(36:UInt8).toNat=58 by decide),if_pos (show(36:UInt8).toNat=36 by decide),z9i (z7v (by omega))];rw[Option.bind_some,if_neg (show ¬(t.size:Int)=-1 by omega),if_neg (show ¬(t.size:Int) < 0 by omega),Int.toNat_natCast];rw[List.take_append_of_le_length (by omega),List.take_of_length_le (by omega),List.drop_append_of_le_length (by omega),List.drop_of_length_le (by omega),List.nil_append]
  have hline:zon t.data.toList (13 :: 10 :: m)=(t.data.toList,m,0):=by
   show(if (13:UInt8).toNat=13 then (if (10:UInt8).toNat=10 then (t.data.toList,m,(0:Int)) else ([],[],1)) else ([],[],1))=_;rw[if_pos (by decide),if_pos (by decide)]
  rw[hline,if_pos rfl,zev];rfl
 ·have ht:t=⟨#[]⟩:=h.text (show ¬(5:Int)=1 by decide) (show ¬(5:Int)=4 by decide);subst ht;have hn:n=0:=h.num (show ¬(5:Int)=2 by decide) (show ¬(5:Int)=3 by decide);subst hn
  have e1:Lib.itoa (-1)=[45,49]:=by
   unfold Lib.itoa;rw[if_pos (by decide)];show 45 :: Lib.decDigits 1=_;rw[Lib.decDigits,dif_pos (by decide)];rfl
  have e:z2g ⟨5,⟨#[]⟩,0,0⟩++m=36 :: (Lib.itoa (-1)++13 :: 10 :: m):=by rw[e1];rfl
  rw[e];show(z5p (Lib.itoa (-1)++13 :: 10 :: m)).bind _=_;rw[z6q _ _ z7e];rw[Option.bind_some];simp only;rw[if_neg (show ¬(36:UInt8).toNat=43 by decide),if_neg (show ¬(36:UInt8).toNat=45 by decide),if_neg (show ¬(36:UInt8).toNat=58 by decide),if_pos (show(36:UInt8).toNat=36 by decide),z9i (z7v (by omega))];rfl
theorem zhw:∀(l acc:List Rp1) (m:List UInt8),(∀x∈l,z7q x)→zmv l.length (l.flatMap z2g++m) acc=some (acc++l,m)
 | [],acc,m,_=>by simp[zmv]
 | x :: l,acc,m,h=>by
  have e:(x :: l).flatMap z2g++m=z2g x++(l.flatMap z2g++m):=by simp
  rw[e,List.length_cons];show(z7y (z2g x++(l.flatMap z2g++m))).bind _=_;rw[zis (h x (by simp))];show zmv l.length (l.flatMap z2g++m) (acc++[x])=_;rw[zhw l _ m (fun y hy=>h y (by simp[hy]))];simp
theorem zq2{r:Rep}(h:z0d r=0)(m:List UInt8):zov (za0 r++m)=some (r,m):=by
 obtain⟨k,t,n,l⟩:=r;rcases zd8 h with⟨hk,h1,hl⟩|⟨hk,ht,hn,hl,hall⟩
 ·have hk:k≠6:=hk;have hl:l=[]:=hl;subst hl;have e:za0 ⟨k,t,n,[]⟩=z2g ⟨k,t,n,0⟩:=if_neg hk;have hd:=zis h1 m;have e2:(⟨k,t,n,[]⟩:Rep).one=⟨k,t,n,0⟩:=rfl;rw[e2] at hd h1;rw[e];have hkk:1≤k∧k≤5:=h1.kind
  have hne:∃c q,z2g ⟨k,t,n,0⟩=c :: q∧c.toNat≠42:=by
   unfold z2g;simp only;split
   ·exact⟨_,_,rfl,by decide⟩
   ·split
    ·exact⟨_,_,rfl,by decide⟩
    ·split
     ·exact⟨_,_,rfl,by decide⟩
     ·split
      ·exact⟨_,_,rfl,by decide⟩
      ·exact⟨_,_,rfl,by decide⟩
  obtain⟨c,q,hc,h42⟩:=hne;rw[hc] at hd ⊢;show(if c.toNat=42 then _ else (z7y (c :: q++m)).map _)=_;rw[if_neg h42,hd];rfl
 ·have hk:k=6:=hk;have ht:t=⟨#[]⟩:=ht;have hn:n=0:=hn;subst hk ht hn;have hl:l.length≤300:=hl
  have e:za0 ⟨6,⟨#[]⟩,0,l⟩++m=42 :: (Lib.itoa (l.length:Int)++13 :: 10 :: (l.flatMap z2g++m)):=by
   show 42 :: (Lib.decDigits l.length++13 :: 10 :: l.flatMap z2g)++m=_;rw[zlp];simp
  rw[e];rw[zz4];unfold za9;rw[z6q _ _ z7e,Option.bind_some];simp only;rw[z9i (z7v (by omega)),Option.bind_some];unfold zxc;rw[if_neg (by omega),Int.toNat_natCast,zhw l [] m hall];rfl
theorem ztl{r:Rep}(h:z0d r=0):zvq (za0 r)=0∧ztk (za0 r)=r:=by
 have hd:=zq2 h [];rw[List.append_nil] at hd;have hw:z62 (za0 r)=some r:=by unfold z62;rw[hd]
 unfold zvq ztk;rw[hw];exact⟨h,if_pos h⟩
end Go.Proofs.YtmalkppcahogjaaGreatDoor
namespace Go.Proofs.YtmalkppcahogjaaGreatDoor
open Lib (hid)
open Go.Proofs.Tryz (prog)
open Go.RowKit
attribute [local go_sem] z1k
theorem zz6(n a b:Int)(w:World):Calls prog 42 #[.int .i64 n,.int .i64 a,.int .i64 b] w fun e w'=>e=.returned (.bool (decide (a≤n)&&decide (n≤b)))∧w'=w:=by
 by_cases h:a≤n
 ·go_enter Tryz.func42,Tryz.ntmps42;go_wp2;go_ret;simp[h]
 ·go_enter Tryz.func42,Tryz.ntmps42;go_wp2;go_ret;simp[h]
  try omega
theorem zeu(n a b:Int)(w:World):Calls prog 170 #[.int .i64 n,.int .i64 a,.int .i64 b] w fun e w'=>e=.returned (.bool (decide (a≤n)&&decide (n≤b)))∧w'=w:=by
 by_cases h:a≤n
 ·go_enter Tryz.func170,Tryz.ntmps170;go_wp2;go_ret;simp[h]
 ·go_enter Tryz.func170,Tryz.ntmps170;go_wp2;go_ret;simp[h]
  try omega
theorem z6j(n:Int)(w:World):Calls prog 136 #[.int .i64 n] w fun e w'=>e=.returned (.bool (z0i n))∧w'=w:=by
 go_enter Tryz.func136,Tryz.ntmps136;go_wp2_with fail;refine(zeu _ _ _ _).mono ?_;rintro e w1 ⟨rfl,rfl⟩;go_wp2;go_ret;exact⟨rfl,rfl⟩
theorem z2r(s:ByteArray)(w:World):Calls prog 114 #[.string s] w fun e w'=>e=.returned (.bool (decide (60 < s.size)))∧w'=w:=by
 have hi:(60 < (s.size:Int))↔60 < s.size:=by omega
 go_enter Tryz.func114,Tryz.ntmps114;go_wp2;go_ret;simp[hi]
theorem zg0(a b:ByteArray)(w:World):Calls prog 226 #[.string a,.string b] w fun e w'=>e=.returned (.int .i64 (z4k a b))∧w'=w:=by
 go_enter Tryz.func226,Tryz.ntmps226;go_wp2;rw[run_callFunc_extern Tryz.func294 (by kernel_rfl) (by kernel_rfl) (by kernel_rfl) (e:=Extern.BytealgCompare.compare) (by kernel_rfl),Lib.run_compareString];simp only[Result.andThen];rw[Oper.upon_value];go_wp2;go_ret;exact⟨rfl,rfl⟩
theorem z70(a b:ByteArray)(w:World):Calls prog 175 #[.string a,.string b] w fun e w'=>e=.returned (.int .i64 (z4k a b))∧w'=w:=by
 go_enter Tryz.func175,Tryz.ntmps175;go_wp2_with fail;refine(zg0 _ _ _).mono ?_;rintro e w1 ⟨rfl,rfl⟩;go_wp2;go_ret;exact⟨rfl,rfl⟩
theorem zuj(a b:ByteArray)(w:World)(ha:a.size≤281474976710656)(hb:b.size≤281474976710656):
  Calls prog 94 #[.string a,.string b] w fun e w'=>e=.returned (.int .i64 (z4k a b))∧∃n,w'=w.drewN n:=by
 go_enter Tryz.func94,Tryz.ntmps94;go_wp2;go_loopg [5] a.size (fun g i wr=>∃(k n:Nat),g=a.size - k∧k≤a.size∧k≤b.size∧i=.int .i64 k∧zl1 a b k=z4k a b∧wr=w.drewN n)
 case atStart=>exact⟨0,0,rfl,Nat.zero_le _,Nat.zero_le _,rfl,zom a b,rfl⟩
 case round=>
  obtain⟨k,n,rfl,hka,hkb,rfl,hR,rfl⟩:=hrel;by_cases h:k < a.size∧k < b.size
  ·obtain⟨h1,h2⟩:=h;rw[znd a b k h1 h2] at hR;by_cases c1:z03 a k < z03 b k
   ·rw[if_pos c1] at hR;have HR:=hid hR;clear hR;go_wp2;go_quiet (fail);go_wp2;go_ret;rw[←HR.out];exact⟨rfl,_,World.drewN_drewN _ _ _⟩
   ·rw[if_neg c1] at hR;by_cases c2:z03 b k < z03 a k
    ·rw[if_pos c2] at hR;have HR:=hid hR;clear hR;go_wp2;go_quiet (fail);go_wp2;go_quiet (fail);go_wp2;go_ret;rw[←HR.out];exact⟨rfl,_,(World.drewN_drewN _ _ _).trans (by rw[World.drewN_drewN])⟩
    ·rw[if_neg c2] at hR;have HR:=hid hR;clear hR;go_wp2;go_quiet (fail);go_wp2;go_quiet (fail);go_wp2;go_roundg (a.size - (k+1))
     case measure=>omega
     case rel=>exact⟨k+1,_,rfl,by omega,by omega,rfl,HR.out,rfl⟩
  ·rw[zqj a b k hka hkb h] at hR;have hab:a.size < b.size∨b.size < a.size∨a.size=b.size:=by omega
   have hk:¬k < a.size∨(k < a.size∧¬k < b.size):=by omega
   rcases hab with hab|hab|hab
   ·rw[if_pos hab] at hR;have HR:=hid hR;clear hR h;rcases hk with hk|⟨hk,hk2⟩
    ·go_wp2;go_ret;rw[←HR.out];exact⟨rfl,_,rfl⟩
    ·omega
   ·rw[if_neg (by omega),if_pos hab] at hR;have HR:=hid hR;clear hR h;rcases hk with hk|⟨hk,hk2⟩
    ·omega
    ·go_wp2;go_ret;rw[←HR.out];exact⟨rfl,_,rfl⟩
   ·rw[if_neg (by omega),if_neg (by omega)] at hR;have HR:=hid hR;clear hR h;rcases hk with hk|⟨hk,hk2⟩
    ·go_wp2;go_ret;rw[←HR.out];exact⟨rfl,_,rfl⟩
    ·omega
theorem zlm(x:Itm)(v:Value)(w:World)(B:Nat)(hs:x.Small)(h:z0r w B v x):
  Calls prog 172 #[v] w fun e w'=>e=.returned (.int .i64 (many x))∧Fr [] w w':=by
 obtain⟨A1,c1,A2,c2,A3,c3,rfl,h1,h2,h3⟩:=h;have s1:=hs.list;have s2:=hs.pairs;have s3:=hs.scores;have hE:((many x:Nat):Int)=(x.list.length:Int)+x.pairs.length+x.scores.length:=by unfold many;omega
 clear h1 h2 h3;generalize x.list.length=n1 at *;generalize x.pairs.length=n2 at *;generalize x.scores.length=n3 at *;generalize many x=m at *;generalize x.kind=k at *;generalize x.text=t at *;go_enter Tryz.func172,Tryz.ntmps172;go_wp2;go_ret;rw[hE];refine⟨rfl,?_⟩;exact(Fr.refl [] w).alloc _
theorem q05(t:ByteArray):(t.toList==ByteArray.toList ⟨#[]⟩)=decide (t.size=0):=by
 rw[eqB];by_cases h:t.size=0
 ·have:t=⟨#[]⟩:=by
   cases t with
   | mk d=>
    congr 1;exact Array.eq_empty_of_size_eq_zero h
  subst this;exact(decide_eq_true rfl).trans (decide_eq_true rfl).symm
 ·have:t≠⟨#[]⟩:=fun e=>h (by rw[e];rfl);simp[h,this]
theorem zma(x:Itm)(v:Value)(w:World)(B:Nat)(hs:x.Small)(h:z0r w B v x):
  Calls prog 171 #[v] w fun e w'=>e=.returned (.bool (z6k x))∧Fr [] w w':=by
 obtain⟨A1,c1,A2,c2,A3,c3,rfl,h1,h2,h3⟩:=h;have s1:=hs.list;have s2:=hs.pairs;have s3:=hs.scores;have hT:=q05 x.text;rw[show ByteArray.toList ⟨#[]⟩=[] from by decide +kernel] at hT;have hL:((x.list.length:Int)==0)=(x.list.length==0):=by rw[Bool.eq_iff_iff];simp
 have hP:((x.pairs.length:Int)==0)=(x.pairs.length==0):=by rw[Bool.eq_iff_iff];simp
 have hS:((x.scores.length:Int)==0)=(x.scores.length==0):=by rw[Bool.eq_iff_iff];simp
 have hE:z6k x=((x.kind==1||x.text.size==0)&&(x.kind==2||x.kind==3||x.list.length==0)&&(x.kind==4||x.pairs.length==0)&&(x.kind==5||x.scores.length==0)):=rfl
 clear h1 h2 h3 hs;generalize (x.list.length==0)=bL at *;generalize (x.pairs.length==0)=bP at *;generalize (x.scores.length==0)=bS at *;rw[show(x.text.size==0)=decide (x.text.size=0) from rfl] at hE;generalize decide (x.text.size=0)=bT at *;generalize x.list.length=n1 at *;generalize x.pairs.length=n2 at *;generalize x.scores.length=n3 at *;generalize z6k x=r at *;generalize x.kind=k at *;generalize x.text=t at *;by_cases k1:k=1
 ·subst k1;cases bL
  ·have HE:=hid hE;clear hE;go_enter Tryz.func171,Tryz.ntmps171;go_wp2;go_ret;rw[HE.out];exact⟨by simp[hT],(Fr.refl [] w).alloc _⟩
  ·cases bP
   ·have HE:=hid hE;clear hE;go_enter Tryz.func171,Tryz.ntmps171;go_wp2;go_ret;rw[HE.out];exact⟨by simp[hT],(Fr.refl [] w).alloc _⟩
   ·cases bS
    ·have HE:=hid hE;clear hE;go_enter Tryz.func171,Tryz.ntmps171;go_wp2;go_ret;rw[HE.out];exact⟨by simp[hT],(Fr.refl [] w).alloc _⟩
    ·have HE:=hid hE;clear hE;go_enter Tryz.func171,Tryz.ntmps171;go_wp2;go_ret;rw[HE.out];exact⟨by simp[hT],(Fr.refl [] w).alloc _⟩
 by_cases k2:k=2
 ·subst k2;cases bT
  ·have HE:=hid hE;clear hE;go_enter Tryz.func171,Tryz.ntmps171;go_wp2;go_ret;rw[HE.out];exact⟨by simp[hT],(Fr.refl [] w).alloc _⟩
  ·cases bP
   ·have HE:=hid hE;clear hE;go_enter Tryz.func171,Tryz.ntmps171;go_wp2;go_ret;rw[HE.out];exact⟨by simp[hT],(Fr.refl [] w).alloc _⟩
   ·cases bS
    ·have HE:=hid hE;clear hE;go_enter Tryz.func171,Tryz.ntmps171;go_wp2;go_ret;rw[HE.out];exact⟨by simp[hT],(Fr.refl [] w).alloc _⟩
    ·have HE:=hid hE;clear hE;go_enter Tryz.func171,Tryz.ntmps171;go_wp2;go_ret;rw[HE.out];exact⟨by simp[hT],(Fr.refl [] w).alloc _⟩
 by_cases k3:k=3
 ·subst k3;cases bT
  ·have HE:=hid hE;clear hE;go_enter Tryz.func171,Tryz.ntmps171;go_wp2;go_ret;rw[HE.out];exact⟨by simp[hT],(Fr.refl [] w).alloc _⟩
  ·cases bP
   ·have HE:=hid hE;clear hE;go_enter Tryz.func171,Tryz.ntmps171;go_wp2;go_ret;rw[HE.out];exact⟨by simp[hT],(Fr.refl [] w).alloc _⟩
   ·cases bS
    ·have HE:=hid hE;clear hE;go_enter Tryz.func171,Tryz.ntmps171;go_wp2;go_ret;rw[HE.out];exact⟨by simp[hT],(Fr.refl [] w).alloc _⟩
    ·have HE:=hid hE;clear hE;go_enter Tryz.func171,Tryz.ntmps171;go_wp2;go_ret;rw[HE.out];exact⟨by simp[hT],(Fr.refl [] w).alloc _⟩
 by_cases k4:k=4
 ·subst k4;cases bT
  ·have HE:=hid hE;clear hE;go_enter Tryz.func171,Tryz.ntmps171;go_wp2;go_ret;rw[HE.out];exact⟨by simp[hT],(Fr.refl [] w).alloc _⟩
  ·cases bL
   ·have HE:=hid hE;clear hE;go_enter Tryz.func171,Tryz.ntmps171;go_wp2;go_ret;rw[HE.out];exact⟨by simp[hT],(Fr.refl [] w).alloc _⟩
   ·cases bS
    ·have HE:=hid hE;clear hE;go_enter Tryz.func171,Tryz.ntmps171;go_wp2;go_ret;rw[HE.out];exact⟨by simp[hT],(Fr.refl [] w).alloc _⟩
    ·have HE:=hid hE;clear hE;go_enter Tryz.func171,Tryz.ntmps171;go_wp2;go_ret;rw[HE.out];exact⟨by simp[hT],(Fr.refl [] w).alloc _⟩
 by_cases k5:k=5
 ·subst k5;cases bT
  ·have HE:=hid hE;clear hE;go_enter Tryz.func171,Tryz.ntmps171;go_wp2;go_ret;rw[HE.out];exact⟨by simp[hT],(Fr.refl [] w).alloc _⟩
  ·cases bL
   ·have HE:=hid hE;clear hE;go_enter Tryz.func171,Tryz.ntmps171;go_wp2;go_ret;rw[HE.out];exact⟨by simp[hT],(Fr.refl [] w).alloc _⟩
   ·cases bP
    ·have HE:=hid hE;clear hE;go_enter Tryz.func171,Tryz.ntmps171;go_wp2;go_ret;rw[HE.out];exact⟨by simp[hT],(Fr.refl [] w).alloc _⟩
    ·have HE:=hid hE;clear hE;go_enter Tryz.func171,Tryz.ntmps171;go_wp2;go_ret;rw[HE.out];exact⟨by simp[hT],(Fr.refl [] w).alloc _⟩
 have q1:(k==1)=false:=by simpa using k1
 have q2:(k==2)=false:=by simpa using k2
 have q3:(k==3)=false:=by simpa using k3
 have q4:(k==4)=false:=by simpa using k4
 have q5:(k==5)=false:=by simpa using k5
 cases bT
 ·have HE:=hid hE;clear hE;go_enter Tryz.func171,Tryz.ntmps171;go_wp2;go_ret;rw[HE.out];exact⟨by simp[hT,q1,q2,q3,q4,q5],(Fr.refl [] w).alloc _⟩
 ·cases bL
  ·have HE:=hid hE;clear hE;go_enter Tryz.func171,Tryz.ntmps171;go_wp2;go_ret;rw[HE.out];exact⟨by simp[hT,q1,q2,q3,q4,q5],(Fr.refl [] w).alloc _⟩
  ·cases bP
   ·have HE:=hid hE;clear hE;go_enter Tryz.func171,Tryz.ntmps171;go_wp2;go_ret;rw[HE.out];exact⟨by simp[hT,q1,q2,q3,q4,q5],(Fr.refl [] w).alloc _⟩
   ·cases bS
    ·have HE:=hid hE;clear hE;go_enter Tryz.func171,Tryz.ntmps171;go_wp2;go_ret;rw[HE.out];exact⟨by simp[hT,q1,q2,q3,q4,q5],(Fr.refl [] w).alloc _⟩
    ·have HE:=hid hE;clear hE;go_enter Tryz.func171,Tryz.ntmps171;go_wp2;go_ret;rw[HE.out];exact⟨by simp[hT,q1,q2,q3,q4,q5],(Fr.refl [] w).alloc _⟩
theorem zpe(a b:ByteArray)(w:World):Calls prog 223 #[.agg #[.string a,.string b]] w fun e w'=>e=.returned (.bool (decide (60 < a.size)||decide (60 < b.size)))∧Fr [] w w':=by
 have L1:=hid (fun W=>z2r a W);have L2:=hid (fun W=>z2r b W);by_cases h:60 < a.size
 ·rw[decide_eq_true h] at L1 ⊢;go_enter Tryz.func223,Tryz.ntmps223;go_wp2_with fail;refine(L1.out _).mono ?_;rintro e w1 ⟨rfl,rfl⟩;go_wp2;go_ret;exact⟨rfl,(Fr.refl [] w).alloc _⟩
 ·rw[decide_eq_false h] at L1 ⊢;go_enter Tryz.func223,Tryz.ntmps223;go_wp2_with fail;refine(L1.out _).mono ?_;rintro e w1 ⟨rfl,rfl⟩;go_wp2_with fail;refine(L2.out _).mono ?_;rintro e w1 ⟨rfl,rfl⟩;go_wp2;go_ret;exact⟨rfl,(Fr.refl [] w).alloc _⟩
theorem zr3(a:Int)(b:ByteArray)(w:World):Calls prog 225 #[.agg #[.int .i64 a,.string b]] w fun e w'=>e=.returned (.bool (decide (60 < b.size)))∧Fr [] w w':=by
 go_enter Tryz.func225,Tryz.ntmps225;go_wp2_with fail;refine(z2r _ _).mono ?_;rintro e w1 ⟨rfl,rfl⟩;go_wp2;go_ret;exact⟨rfl,(Fr.refl [] w).alloc _⟩
def z34{α:Type}(q:α→Bool)(l:List α):Int:=match l.findIdx? q with|some i=>i|none=>-1
theorem z2i{α:Type}{q:α→Bool}{l:List α}{k:Nat}{s:α}(h:∀(j:Nat) t,j < k→l[j]? = some t→q t=false)(hk:l[k]? = some s)(hq:q s=true):z34 q l=k:=by
 have:l.findIdx? q=some k:=by
  rw[List.findIdx?_eq_some_iff_getElem];obtain⟨hlt,he⟩:=List.getElem?_eq_some_iff.1 hk;exact⟨hlt,by rw[he];exact hq,fun j hj=>by rw[h j _ hj (List.getElem?_eq_getElem (by omega))];decide⟩
 unfold z34;rw[this]
theorem z33{α:Type}{q:α→Bool}{l:List α}(h:∀(j:Nat) t,l[j]? = some t→q t=false):z34 q l=-1:=by
 have:l.findIdx? q=none:=by
  rw[List.findIdx?_eq_none_iff];intro t ht;obtain⟨j,hj⟩:=List.getElem?_of_mem ht;exact h j t hj
 unfold z34;rw[this]
def z4h(s:ByteArray):Bool:=decide (60 < s.size)
theorem zkl(l:List ByteArray)(A:Option Addr)(c B:Nat)(w:World)(hl:l.length≤281474976710656)(hB:B≤w.heap.size)(hsl:Sl w B 1 (.slice A l.length c) l.length (z04 l)):
  Calls prog 190 #[.slice A l.length c,.func (Fn.func 114) #[] #[]] w fun e w'=>e=.returned (.int .i64 (z34 z4h l))∧Fr [] w w':=by
 have HS:=hid hsl;clear hsl;go_enter Tryz.func190,Tryz.ntmps190;go_wp2;go_loopg [5,8] l.length (fun g u i wr=>∃(k:Nat),g=l.length - k∧k≤l.length∧i=.int .i64 k∧(∀j t,j < k→l[j]? = some t→z4h t=false)∧Fr [] w wr)
 case atStart=>exact⟨0,rfl,Nat.zero_le _,rfl,fun j t hj=>absurd hj (Nat.not_lt_zero _),Fr.refl _ _⟩
 case round=>
  obtain⟨k,rfl,hk,rfl,hno,hf⟩:=hrel;by_cases hlt:k < l.length
  ·obtain⟨b,off,rfl,hb,hc,hm,hcell⟩:=HS.out.at_ (by omega);obtain⟨s,hs⟩:∃s,l[k]? = some s:=⟨_,List.getElem?_eq_getElem hlt⟩;have hc1:wr.cell? ⟨b,off+k,none⟩=some (.string s):=hf.cell (hcell k _ (z1b l k s hs)) (by simp);have L:=hid (fun W=>z2r s W);by_cases hq:z4h s=true
   ·have E:=hid (z2i hno hs hq);rw[show decide (60 < s.size)=true from hq] at L;clear hno hcell hs hq;go_wp2_with fail;refine(L.out _).mono ?_;rintro e w1 ⟨rfl,rfl⟩;go_wp2;go_ret;rw[E.out];exact⟨rfl,hf⟩
   ·have hq':z4h s=false:=by simpa using hq
    rw[show decide (60 < s.size)=false from hq'] at L
    have N:=hid (fun j t (hj:j < k+1) (ht:l[j]? = some t)=>(show z4h t=false by
     rcases Nat.lt_or_ge j k with h|h
     ·exact hno j t h ht
     ·have e:j=k:=by omega
      subst e;rw[hs] at ht;cases ht;exact hq'))
    clear hno hcell hs hq hq';go_wp2_with fail;refine(L.out _).mono ?_;rintro e w1 ⟨rfl,rfl⟩;go_wp2;go_roundg (l.length - (k+1))
    case measure=>omega
    case rel=>exact⟨k+1,rfl,by omega,rfl,N.out,hf⟩
  ·have E:=hid (z33 (q:=z4h) (l:=l) (fun j t ht=>hno j t (by have:=(List.getElem?_eq_some_iff.1 ht).1;omega) ht));clear hno;go_wp2;go_ret;rw[E.out];exact⟨rfl,hf⟩
def z4n(s:ByteArray×ByteArray):Bool:=decide (60 < s.1.size)||decide (60 < s.2.size)
theorem zi7(l:List (ByteArray×ByteArray))(A:Option Addr)(c B:Nat)(w:World)(hl:l.length≤281474976710656)(hB:B≤w.heap.size)(hsl:Sl w B 2 (.slice A l.length c) l.length (z0f l)):
  Calls prog 292 #[.slice A l.length c,.func (Fn.func 223) #[] #[]] w fun e w'=>e=.returned (.int .i64 (z34 z4n l))∧Fr [] w w':=by
 have HS:=hid hsl;clear hsl;go_enter Tryz.func292,Tryz.ntmps292;go_wp2;go_loopg [5,8] l.length (fun g u i wr=>∃(k:Nat),g=l.length - k∧k≤l.length∧i=.int .i64 k∧(∀j t,j < k→l[j]? = some t→z4n t=false)∧Fr [] w wr)
 case atStart=>exact⟨0,rfl,Nat.zero_le _,rfl,fun j t hj=>absurd hj (Nat.not_lt_zero _),Fr.refl _ _⟩
 case round=>
  obtain⟨k,rfl,hk,rfl,hno,hf⟩:=hrel;by_cases hlt:k < l.length
  ·obtain⟨b,off,rfl,hb,hc,hm,hcell⟩:=HS.out.at_ (by omega);obtain⟨s,hs⟩:∃s,l[k]? = some s:=⟨_,List.getElem?_eq_getElem hlt⟩;have hc1:wr.cell? ⟨b,off+2 * k,none⟩=some (.string s.1):=hf.cell (hcell _ _ (z0l l k s hs).1) (by simp);have hc2:wr.cell? ⟨b,off+2 * k+1,none⟩=some (.string s.2):=hf.cell (hcell _ _ (z0l l k s hs).2) (by simp);rw[Nat.mul_comm 2 k] at hc1 hc2;have L:=hid (fun W=>zpe s.1 s.2 W);by_cases hq:z4n s=true
   ·have E:=hid (z2i hno hs hq);rw[show(decide (60 < s.1.size)||decide (60 < s.2.size))=true from hq] at L
    clear hno hcell hs hq;go_wp2_with fail;refine(L.out _).mono ?_;rintro e w1 ⟨rfl,h1⟩;go_wp2;go_ret;rw[E.out];exact⟨rfl,hf.trans h1⟩
   ·have hq':z4n s=false:=by simpa using hq
    rw[show(decide (60 < s.1.size)||decide (60 < s.2.size))=false from hq'] at L
    have N:=hid (fun j t (hj:j < k+1) (ht:l[j]? = some t)=>(show z4n t=false by
     rcases Nat.lt_or_ge j k with h|h
     ·exact hno j t h ht
     ·have e:j=k:=by omega
      subst e;rw[hs] at ht;cases ht;exact hq'))
    clear hno hcell hs hq hq';go_wp2_with fail;refine(L.out _).mono ?_;rintro e w1 ⟨rfl,h1⟩;go_wp2;go_roundg (l.length - (k+1))
    case measure=>omega
    case rel=>exact⟨k+1,rfl,by omega,rfl,N.out,hf.trans h1⟩
  ·have E:=hid (z33 (q:=z4n) (l:=l) (fun j t ht=>hno j t (by have:=(List.getElem?_eq_some_iff.1 ht).1;omega) ht));clear hno;go_wp2;go_ret;rw[E.out];exact⟨rfl,hf⟩
def z8l(s:Int×ByteArray):Bool:=decide (60 < s.2.size)
theorem zh3(l:List (Int×ByteArray))(A:Option Addr)(c B:Nat)(w:World)(hl:l.length≤281474976710656)(hB:B≤w.heap.size)(hsl:Sl w B 2 (.slice A l.length c) l.length (z07 l)):
  Calls prog 293 #[.slice A l.length c,.func (Fn.func 225) #[] #[]] w fun e w'=>e=.returned (.int .i64 (z34 z8l l))∧Fr [] w w':=by
 have HS:=hid hsl;clear hsl;go_enter Tryz.func293,Tryz.ntmps293;go_wp2;go_loopg [5,8] l.length (fun g u i wr=>∃(k:Nat),g=l.length - k∧k≤l.length∧i=.int .i64 k∧(∀j t,j < k→l[j]? = some t→z8l t=false)∧Fr [] w wr)
 case atStart=>exact⟨0,rfl,Nat.zero_le _,rfl,fun j t hj=>absurd hj (Nat.not_lt_zero _),Fr.refl _ _⟩
 case round=>
  obtain⟨k,rfl,hk,rfl,hno,hf⟩:=hrel;by_cases hlt:k < l.length
  ·obtain⟨b,off,rfl,hb,hc,hm,hcell⟩:=HS.out.at_ (by omega);obtain⟨s,hs⟩:∃s,l[k]? = some s:=⟨_,List.getElem?_eq_getElem hlt⟩;have hc1:wr.cell? ⟨b,off+2 * k,none⟩=some (.int .i64 s.1):=hf.cell (hcell _ _ (z0a l k s hs).1) (by simp);have hc2:wr.cell? ⟨b,off+2 * k+1,none⟩=some (.string s.2):=hf.cell (hcell _ _ (z0a l k s hs).2) (by simp);rw[Nat.mul_comm 2 k] at hc1 hc2;have L:=hid (fun W=>zr3 s.1 s.2 W);by_cases hq:z8l s=true
   ·have E:=hid (z2i hno hs hq);rw[show(decide (60 < s.2.size))=true from hq] at L;clear hno hcell hs hq;go_wp2_with fail;refine(L.out _).mono ?_;rintro e w1 ⟨rfl,h1⟩;go_wp2;go_ret;rw[E.out];exact⟨rfl,hf.trans h1⟩
   ·have hq':z8l s=false:=by simpa using hq
    rw[show(decide (60 < s.2.size))=false from hq'] at L
    have N:=hid (fun j t (hj:j < k+1) (ht:l[j]? = some t)=>(show z8l t=false by
     rcases Nat.lt_or_ge j k with h|h
     ·exact hno j t h ht
     ·have e:j=k:=by omega
      subst e;rw[hs] at ht;cases ht;exact hq'))
    clear hno hcell hs hq hq';go_wp2_with fail;refine(L.out _).mono ?_;rintro e w1 ⟨rfl,h1⟩;go_wp2;go_roundg (l.length - (k+1))
    case measure=>omega
    case rel=>exact⟨k+1,rfl,by omega,rfl,N.out,hf.trans h1⟩
  ·have E:=hid (z33 (q:=z8l) (l:=l) (fun j t ht=>hno j t (by have:=(List.getElem?_eq_some_iff.1 ht).1;omega) ht));clear hno;go_wp2;go_ret;rw[E.out];exact⟨rfl,hf⟩
theorem z7l{α:Type}(q:α→Bool)(l:List α):0≤z34 q l↔l.any q=true:=by
 cases h:l.any q with
 | false=>
  have:z34 q l=-1:=z33 (fun j t ht=>by
   have:=List.any_eq_false.1 h t (List.mem_of_getElem? ht);simpa using this)
  rw[this];simp
 | true=>
  obtain⟨t,ht,hq⟩:=List.any_eq_true.1 h;unfold z34;cases hf:l.findIdx? q with
  | none=>
   rw[List.findIdx?_eq_none_iff] at hf;have:=hf t ht;rw[hq] at this;cases this
  | some i=>simp
theorem zmb(l:List (ByteArray))(A:Option Addr)(c B:Nat)(w:World)(hl:l.length≤281474976710656)(hB:B≤w.heap.size)(hsl:Sl w B 1 (.slice A l.length c) l.length (z04 l)):
  Calls prog 132 #[.slice A l.length c,.func (Fn.func 114) #[] #[]] w fun e w'=>e=.returned (.bool (l.any z4h))∧Fr [] w w':=by
 have I:=hid (zkl l A c B w hl hB hsl);have h:=z7l z4h l;clear hsl;generalize z34 z4h l=r at *;generalize l.any z4h=b at *;generalize l.length=n at *;cases b
 ·have hr:r < 0:=by simpa using h
  clear h;go_enter Tryz.func132,Tryz.ntmps132;go_wp2_with fail;refine I.out.mono ?_;rintro e w1 ⟨rfl,h1⟩;go_wp2;go_ret;exact⟨by simp <;> omega,h1⟩
 ·have hr:0≤r:=by simpa using h
  clear h;go_enter Tryz.func132,Tryz.ntmps132;go_wp2_with fail;refine I.out.mono ?_;rintro e w1 ⟨rfl,h1⟩;go_wp2;go_ret;exact⟨by simp <;> omega,h1⟩
theorem zua(l:List (ByteArray×ByteArray))(A:Option Addr)(c B:Nat)(w:World)(hl:l.length≤281474976710656)(hB:B≤w.heap.size)(hsl:Sl w B 2 (.slice A l.length c) l.length (z0f l)):
  Calls prog 222 #[.slice A l.length c,.func (Fn.func 223) #[] #[]] w fun e w'=>e=.returned (.bool (l.any z4n))∧Fr [] w w':=by
 have I:=hid (zi7 l A c B w hl hB hsl);have h:=z7l z4n l;clear hsl;generalize z34 z4n l=r at *;generalize l.any z4n=b at *;generalize l.length=n at *;cases b
 ·have hr:r < 0:=by simpa using h
  clear h;go_enter Tryz.func222,Tryz.ntmps222;go_wp2_with fail;refine I.out.mono ?_;rintro e w1 ⟨rfl,h1⟩;go_wp2;go_ret;exact⟨by simp <;> omega,h1⟩
 ·have hr:0≤r:=by simpa using h
  clear h;go_enter Tryz.func222,Tryz.ntmps222;go_wp2_with fail;refine I.out.mono ?_;rintro e w1 ⟨rfl,h1⟩;go_wp2;go_ret;exact⟨by simp <;> omega,h1⟩
theorem zvb(l:List (Int×ByteArray))(A:Option Addr)(c B:Nat)(w:World)(hl:l.length≤281474976710656)(hB:B≤w.heap.size)(hsl:Sl w B 2 (.slice A l.length c) l.length (z07 l)):
  Calls prog 224 #[.slice A l.length c,.func (Fn.func 225) #[] #[]] w fun e w'=>e=.returned (.bool (l.any z8l))∧Fr [] w w':=by
 have I:=hid (zh3 l A c B w hl hB hsl);have h:=z7l z8l l;clear hsl;generalize z34 z8l l=r at *;generalize l.any z8l=b at *;generalize l.length=n at *;cases b
 ·have hr:r < 0:=by simpa using h
  clear h;go_enter Tryz.func224,Tryz.ntmps224;go_wp2_with fail;refine I.out.mono ?_;rintro e w1 ⟨rfl,h1⟩;go_wp2;go_ret;exact⟨by simp <;> omega,h1⟩
 ·have hr:0≤r:=by simpa using h
  clear h;go_enter Tryz.func224,Tryz.ntmps224;go_wp2_with fail;refine I.out.mono ?_;rintro e w1 ⟨rfl,h1⟩;go_wp2;go_ret;exact⟨by simp <;> omega,h1⟩
def z97(x:Itm):Bool:=x.list.any z4h||x.pairs.any z4n||x.scores.any z8l
theorem zj6(x:Itm)(v:Value)(w:World)(B:Nat)(hs:x.Small)(hB:B≤w.heap.size)(h:z0r w B v x):
  Calls prog 173 #[v] w fun e w'=>e=.returned (.bool (z97 x))∧Fr [] w w':=by
 obtain⟨A1,c1,A2,c2,A3,c3,rfl,h1,h2,h3⟩:=h;have S:=hid (fun W (hf:Fr [] w W)=>zmb x.list A1 c1 B W hs.list (Nat.le_trans hB hf.size) (h1.fr hf hB (by simp)));have P:=hid (fun W (hf:Fr [] w W)=>zua x.pairs A2 c2 B W hs.pairs (Nat.le_trans hB hf.size) (h2.fr hf hB (by simp)));have C:=hid (fun W (hf:Fr [] w W)=>zvb x.scores A3 c3 B W hs.scores (Nat.le_trans hB hf.size) (h3.fr hf hB (by simp)));have hE:z97 x=(x.list.any z4h||x.pairs.any z4n||x.scores.any z8l):=rfl
 clear h1 h2 h3 hs;generalize z97 x=r at *;generalize x.list.any z4h=b1 at *;generalize x.pairs.any z4n=b2 at *;generalize x.scores.any z8l=b3 at *;generalize x.list.length=n1 at *;generalize x.pairs.length=n2 at *;generalize x.scores.length=n3 at *;generalize x.kind=k at *;generalize x.text=t at *;subst hE;have hz:Fr [] w (w.alloc (.cells #[.int .i64 k,.string t,.slice A1 n1 c1,.slice A2 n2 c2,.slice A3 n3 c3] 65)):=(Fr.refl [] w).alloc _;cases b1
 ·cases b2
  ·go_enter Tryz.func173,Tryz.ntmps173;go_wp2_with fail;refine(S.out _ hz).mono ?_;rintro e w1 ⟨rfl,f1⟩;have W0:Whole (w.alloc (.cells #[.int .i64 k,.string t,.slice A1 n1 c1,.slice A2 n2 c2,.slice A3 n3 c3] 65)) w.heap.size 65 [.int .i64 k,.string t,.slice A1 n1 c1,.slice A2 n2 c2,.slice A3 n3 c3]:=Whole.new w _ _;have W1:=W0.fr f1 (by simp);have d3:w1.cell? ⟨w.heap.size,3,none⟩=some (.slice A2 n2 c2):=W1.cell 3;have d4:w1.cell? ⟨w.heap.size,4,none⟩=some (.slice A3 n3 c3):=W1.cell 4;have HW:=hid W1;clear W0 W1;go_wp2_with fail;refine(P.out _ (hz.trans f1)).mono ?_;rintro e w2 ⟨rfl,f2⟩;have e4:w2.cell? ⟨w.heap.size,4,none⟩=some (.slice A3 n3 c3):=(HW.out.fr f2 (by simp)).cell 4;go_wp2_with fail;refine(C.out _ ((hz.trans f1).trans f2)).mono ?_;rintro e w3 ⟨rfl,f3⟩;go_wp2;go_ret;exact⟨by simp,((hz.trans f1).trans f2).trans f3⟩
  ·go_enter Tryz.func173,Tryz.ntmps173;go_wp2_with fail;refine(S.out _ hz).mono ?_;rintro e w1 ⟨rfl,f1⟩;have W0:Whole (w.alloc (.cells #[.int .i64 k,.string t,.slice A1 n1 c1,.slice A2 n2 c2,.slice A3 n3 c3] 65)) w.heap.size 65 [.int .i64 k,.string t,.slice A1 n1 c1,.slice A2 n2 c2,.slice A3 n3 c3]:=Whole.new w _ _;have W1:=W0.fr f1 (by simp);have d3:w1.cell? ⟨w.heap.size,3,none⟩=some (.slice A2 n2 c2):=W1.cell 3;have d4:w1.cell? ⟨w.heap.size,4,none⟩=some (.slice A3 n3 c3):=W1.cell 4;have HW:=hid W1;clear W0 W1;go_wp2_with fail;refine(P.out _ (hz.trans f1)).mono ?_;rintro e w2 ⟨rfl,f2⟩;go_wp2;go_ret;exact⟨rfl,(hz.trans f1).trans f2⟩
 ·go_enter Tryz.func173,Tryz.ntmps173;go_wp2_with fail;refine(S.out _ hz).mono ?_;rintro e w1 ⟨rfl,f1⟩;go_wp2;go_ret;exact⟨rfl,hz.trans f1⟩
def rises{α:Type}(lt:α→α→Bool):List α→Bool
 | []=>true
 | [_]=>true
 | a :: b :: r=>lt a b&&rises lt (b :: r)
theorem zan{α:Type}{lt:α→α→Bool}{l:List α}{m:Nat}{a b:α}(ha:l[m]? = some a)(hb:l[m+1]? = some b):rises lt (l.drop m)=(lt a b&&rises lt (l.drop (m+1))):=by
 obtain⟨h1,e1⟩:=List.getElem?_eq_some_iff.1 ha;obtain⟨h2,e2⟩:=List.getElem?_eq_some_iff.1 hb;have d2:l.drop (m+1)=b :: l.drop (m+2):=by rw[List.drop_eq_getElem_cons h2,e2]
 rw[List.drop_eq_getElem_cons h1,e1,d2];rfl
theorem zdv{α:Type}{lt:α→α→Bool}{l:List α}{m:Nat}(h:l.length≤m+1):rises lt (l.drop m)=true:=by
 have:(l.drop m).length≤1:=by simp;omega
 match l.drop m,this with
 | [],_=>rfl
 | [_],_=>rfl
def ltS(a b:ByteArray):Bool:=decide (z4k a b < 0)
theorem zji(l:List ByteArray)(A:Option Addr)(c B:Nat)(w:World)(hl:l.length≤281474976710656)(hB:B≤w.heap.size)(hsl:Sl w B 1 (.slice A l.length c) l.length (z04 l)):
  Calls prog 174 #[.slice A l.length c,.func (Fn.func 175) #[] #[]] w fun e w'=>e=.returned (.bool (rises ltS l))∧Fr [] w w':=by
 have HS:=hid hsl;clear hsl;go_enter Tryz.func174,Tryz.ntmps174;go_wp2;go_loopg [5] l.length (fun g i wr=>∃(m:Nat),g=l.length - m∧i=.int .i64 ((m:Int)+1)∧m≤l.length∧rises ltS (l.drop m)=rises ltS l∧Fr [] w wr)
 case atStart=>exact⟨0,rfl,rfl,Nat.zero_le _,rfl,Fr.refl _ _⟩
 case round=>
  obtain⟨m,rfl,rfl,hm,hR,hf⟩:=hrel;by_cases hlt:m+1 < l.length
  ·obtain⟨b,off,rfl,hb,hc,hmx,hcell⟩:=HS.out.at_ (by omega);obtain⟨s,hs⟩:∃s,l[m]? = some s:=⟨_,List.getElem?_eq_getElem (by omega)⟩;obtain⟨t,ht⟩:∃t,l[m+1]? = some t:=⟨_,List.getElem?_eq_getElem hlt⟩;have hc1:wr.cell? ⟨b,off+m,none⟩=some (.string s):=hf.cell (hcell m _ (z1b l m s hs)) (by simp);have hc2:wr.cell? ⟨b,off+(m+1),none⟩=some (.string t):=hf.cell (hcell (m+1) _ (z1b l (m+1) t ht)) (by simp);rw[zan hs ht] at hR;have hC:∀W,Calls prog 175 #[.string s,.string t] W fun e w'=>e=.returned (.int .i64 (z4k s t))∧∃n,w'=W.drewN n:=fun W=>(z70 s t W).mono (fun e w' h=>⟨h.1,0,h.2⟩);have HC:=hid hC;clear hcell hs ht hC;have wr1:IntKind.i64.wrap ((m:Int)+1)=(m:Int)+1:=IntWalk.i64_in _ (by omega);have wr2:IntKind.i64.wrap (m:Int)=(m:Int):=IntWalk.i64_in _ (by omega);by_cases hq:z4k s t < 0
   ·rw[show ltS s t=true from decide_eq_true hq,Bool.true_and] at hR;have HR:=hid hR;clear hR;go_wp2;go_quiet ((go_at_call 175;exact Calls.quiet_of (HC.out _)));go_wp2;go_roundg (l.length - (m+1))
    case measure=>omega
    case rel=>exact⟨m+1,rfl,rfl,by omega,HR.out,hf.drewN _⟩
   ·rw[show ltS s t=false from decide_eq_false hq,Bool.false_and] at hR;have HR:=hid hR;clear hR;go_wp2;go_quiet ((go_at_call 175;exact Calls.quiet_of (HC.out _)));go_wp2;go_ret;rw[←HR.out];exact⟨rfl,hf.drewN _⟩
  ·rw[zdv (by omega)] at hR;have HR:=hid hR;clear hR;go_wp2;go_ret;rw[←HR.out];exact⟨rfl,hf⟩
def ltP(a b:ByteArray×ByteArray):Bool:=decide (z4k a.1 b.1 < 0)
def z94(a b:Int×ByteArray):Int:=if a.1=b.1 then z4k a.2 b.2 else a.1 - b.1
def ltC(a b:Int×ByteArray):Bool:=decide (z94 a b < 0)
theorem zas(a b:ByteArray×ByteArray)(w:World):Calls prog 177 #[.agg #[.string a.1,.string a.2],.agg #[.string b.1,.string b.2]] w fun e w'=>e=.returned (.int .i64 (z4k a.1 b.1))∧Fr [] w w':=by
 go_enter Tryz.func177,Tryz.ntmps177;go_wp2_with fail;refine(z70 _ _ _).mono ?_;rintro e w1 ⟨rfl,rfl⟩;go_wp2;go_ret;exact⟨rfl,((Fr.refl [] w).alloc _).alloc _⟩
theorem zb6(a b:Int×ByteArray)(w:World)(ha:z0i a.1=true)(hb:z0i b.1=true):Calls prog 228 #[.agg #[.int .i64 a.1,.string a.2],.agg #[.int .i64 b.1,.string b.2]] w fun e w'=>e=.returned (.int .i64 (z94 a b))∧Fr [] w w':=by
 simp only[z0i,Bool.and_eq_true,decide_eq_true_eq] at ha hb;by_cases h:a.1=b.1
 ·have E:=hid (show z94 a b=z4k a.2 b.2 by unfold z94;rw[if_pos h]);have hne:(a.1 != b.1)=false:=by simpa using h
  clear h;go_enter Tryz.func228,Tryz.ntmps228;go_wp2_with fail;refine(z70 _ _ _).mono ?_;rintro e w1 ⟨rfl,rfl⟩;go_wp2;go_ret;rw[E.out];exact⟨rfl,((Fr.refl [] w).alloc _).alloc _⟩
 ·have E:=hid (show z94 a b=a.1 - b.1 by unfold z94;rw[if_neg h]);have hne:(a.1 != b.1)=true:=by simpa using h
  have hw:IntKind.i64.wrap (a.1 - b.1)=a.1 - b.1:=IntWalk.i64_in _ (by omega);clear h;go_enter Tryz.func228,Tryz.ntmps228;go_wp2;go_ret;rw[E.out];exact⟨rfl,((Fr.refl [] w).alloc _).alloc _⟩
section
variable {w w':World} {B size n:Nat} {xs:List Value}
theorem Sl.cut{A:Option Addr}{c:Nat}(h:Sl w B size (.slice A n c) n xs){a b:Nat}(hab:a≤b)(hb:b≤n):
  Sl w B size (.slice (if c=a then A else A.map (·.add (a * size))) (b - a) (c - a)) (b - a) ((xs.drop (a * size)).take ((b - a) * size)):=by
 obtain⟨A',c',e,hl,hc,hm,hr⟩:=h;cases e;refine⟨_,_,rfl,?_,by omega,by unfold maxLen at *;omega,fun hn=>?_⟩
 ·rw[List.length_take,List.length_drop,hl];have h1:(b - a) * size≤(n - a) * size:=Nat.mul_le_mul_right _ (by omega);have h2:n * size - a * size=(n - a) * size:=(Nat.sub_mul n a size).symm;omega
 ·obtain⟨g,off,rfl,hg,hcell⟩:=hr (by omega);rw[if_neg (by omega)];refine⟨g,off+a * size,?_,hg,fun j u hu=>?_⟩
  ·show some ((⟨g,off,none⟩:Addr).add (a * size))=_;unfold Addr.add;split
   ·have e0:a * size=0:=by assumption
    rw[e0];rfl
   ·rfl
  ·rw[List.getElem?_take] at hu;split at hu
   ·rw[List.getElem?_drop] at hu;rw[Nat.add_assoc];exact hcell _ u hu
   ·cases hu
end
section
variable {P:Program} (w:World)
theorem zb7(base:Nat)(t ty e:TypeId)(i:TypeInfo)(size:Nat)(ht:P.underlying t=some (.slice e))(hi:P.info? e=some i)
  (v:Value) (n:Nat) (xs:List Value) (hown:w.ownsRow base e size v n xs) (c:Nat):(Builtin.append_ #[t,t] ty #[v,.slice none 0 c]).run P w=.ok v w:=by
 rcases hown.2 with⟨rfl,rfl⟩|⟨g,cap,cur,rfl,_,_,hnc,_⟩
 ·simp[Builtin.append_,run_underlying ht,sizeOf,typeInfo,hi,Builtin.lenOf,Builtin.firstCells]
 ·simp[Builtin.append_,run_underlying ht,sizeOf,typeInfo,hi,Builtin.lenOf,Builtin.firstCells,hnc,storeCells]
theorem zac(base:Nat)(t ty e:TypeId)(i:TypeInfo)(z:Value)(size bytes:Nat)(ht:P.underlying t=some (.slice e))(hi:P.info? e=some i)(hz:i.zero=some z)
  (hsize:i.size=size) (hby:i.bytes=bytes) (hzs:z.cells.size=size) (hsz:0 < size)
  (v:Value) (n:Nat) (xs:List Value) (hown:w.ownsRow base e size v n xs)
  (B:Nat) (x:Value) (m:Nat) (news:List Value) (hr:Sl w B size x m news) (h1:∀u∈news,u.oneCell'=true)
  (h63:n+m≤maxLen) (hbytes:(n+m) * bytes≤140737488355328) (hbase:base≤w.heap.size):
  ∃v' w',(Builtin.append_ #[t,t] ty #[v,x]).run P w=.ok v' w'∧w'.ownsRow base e size v' (n+m) (xs++news)∧w.grownBy w' v.ownBlock ∧
   (v'.ownBlock=v.ownBlock∨v'.ownBlock=some w.heap.size):=by
 obtain⟨A,c,rfl,hl,hc,hm,hcell⟩:=hr;rcases A with _|ad
 ·have h0:m=0:=by
   rcases Nat.eq_zero_or_pos m with h0|h0
   ·exact h0
   ·obtain⟨_,_,h,_⟩:=hcell h0;cases h
  subst h0;have hn:news=[]:=List.eq_nil_of_length_eq_zero (by simpa using hl);subst hn;exact⟨v,w,zb7 w base t ty e i size ht hi v n xs hown c,by simpa using hown,⟨rfl,rfl,rfl,Nat.le_refl _,fun _ _ _=>rfl⟩,.inl rfl⟩
 ·have hcells:∀j u,news[j]? = some u→w.cell? (ad.add j)=some u:=by
   intro j u hu;rcases Nat.eq_zero_or_pos m with h0|h0
   ·subst h0;have hn:news=[]:=List.eq_nil_of_length_eq_zero (by simpa using hl);subst hn;simp at hu
   ·obtain⟨g,off,h,_,hc⟩:=hcell h0;injection h with h
    subst h;have:=hc j u hu;unfold Addr.add;split
    ·have e0:j=0:=by assumption
     subst e0;exact this
    ·exact this
  obtain⟨v',w',hrun,h2,h3,_,h5⟩:=run_append_own_at (P:=P) w base t ty e i z size bytes ht hi hz hsize hby hzs hsz v n xs hown ad m c news hl hcells h1 h63 hbytes hbase;exact⟨v',w',hrun,h2,h3,h5⟩
theorem zbd{o:Oper}{a:Act}{K:Act→World→Prop}{Q:Exit→Act→World→Prop}(s x:Operand)(t:TypeId)
  (ho:o.op=.call { callee:=.builtin .append,args:=#[s,x],argTypes:=#[t,t] })
  (base:Nat) (e:TypeId) (i:TypeInfo) (z:Value) (size bytes:Nat) (ht:P.underlying t=some (.slice e)) (hi:P.info? e=some i) (hz:i.zero=some z)
  (hsize:i.size=size) (hby:i.bytes=bytes) (hzs:z.cells.size=size) (hsz:0 < size)
  (v:Value) (n:Nat) (xs:List Value) (hs:a.eval s=v) (hown:w.ownsRow base e size v n xs)
  (B:Nat) (vx:Value) (m:Nat) (news:List Value) (hx:a.eval x=vx) (hr:Sl w B size vx m news) (h1:∀u∈news,u.oneCell'=true)
  (h63:n+m≤maxLen) (hbytes:(n+m) * bytes≤140737488355328) (hbase:base≤w.heap.size)
  (h:∀v' w',w'.ownsRow base e size v' (n+m) (xs++news)→w.grownBy w' v.ownBlock→(v'.ownBlock=v.ownBlock∨v'.ownBlock=some w.heap.size)→K (a.put o.dst v') w'):o.wp P a w K Q:=by
 obtain⟨v',w',hrun,h2,h3,h4⟩:=zac (P:=P) w base t o.type e i z size bytes ht hi hz hsize hby hzs hsz v n xs hown B vx m news hr h1 h63 hbytes hbase;unfold Oper.wp execOp;simp only[ho,resolve,invoke,builtin,Sem.run_bind,Sem.run_pure,Result.andThen_ok,List.map_toArray,List.map_cons,List.map_nil,hs,hx,hrun];exact h v' w' h2 h3 h4
theorem z0j{ops:Array Oper}{rest:List Oper}{o:Oper}{a:Act}{Q:Exit→Act→World→Prop}(hgd:o.guard=none)(s x:Operand)(t:TypeId)
  (ho:o.op=.call { callee:=.builtin .append,args:=#[s,x],argTypes:=#[t,t] })
  (base:Nat) (e:TypeId) (i:TypeInfo) (z:Value) (size bytes:Nat) (ht:P.underlying t=some (.slice e)) (hi:P.info? e=some i) (hz:i.zero=some z)
  (hsize:i.size=size) (hby:i.bytes=bytes) (hzs:z.cells.size=size) (hsz:0 < size)
  (v:Value) (n:Nat) (xs:List Value) (hs:a.eval s=v) (hown:w.ownsRow base e size v n xs)
  (B:Nat) (vx:Value) (m:Nat) (news:List Value) (hx:a.eval x=vx) (hr:Sl w B size vx m news) (h1:∀u∈news,u.oneCell'=true)
  (h63:n+m≤maxLen) (hbytes:(n+m) * bytes≤140737488355328) (hbase:base≤w.heap.size)
  (h:∀v' w',w'.ownsRow base e size v' (n+m) (xs++news)→w.grownBy w' v.ownBlock→(v'.ownBlock=v.ownBlock∨v'.ownBlock=some w.heap.size)→wpList P ops Q rest (a.put o.dst v') w'):wpList P ops Q (o :: rest) a w:=
 wpList_plain hgd fun _ hK=>zbd w s x t ho base e i z size bytes ht hi hz hsize hby hzs hsz v n xs hs hown B vx m news hx hr h1 h63 hbytes hbase fun v' w' h2 h3 h4=>hK _ _ (h v' w' h2 h3 h4)
theorem z8k{ops:Array Oper}{o:Oper}{a:Act}{K:Act→World→Prop}{Q:Exit→Act→World→Prop}{E:Prop}(hgd:o.guard=none)(s x:Operand)(t:TypeId)
  (ho:o.op=.call { callee:=.builtin .append,args:=#[s,x],argTypes:=#[t,t] })
  (base:Nat) (e:TypeId) (i:TypeInfo) (z:Value) (size bytes:Nat) (ht:P.underlying t=some (.slice e)) (hi:P.info? e=some i) (hz:i.zero=some z)
  (hsize:i.size=size) (hby:i.bytes=bytes) (hzs:z.cells.size=size) (hsz:0 < size)
  (v:Value) (n:Nat) (xs:List Value) (hs:a.eval s=v) (hown:w.ownsRow base e size v n xs)
  (B:Nat) (vx:Value) (m:Nat) (news:List Value) (hx:a.eval x=vx) (hr:Sl w B size vx m news) (h1:∀u∈news,u.oneCell'=true)
  (h63:n+m≤maxLen) (hbytes:(n+m) * bytes≤140737488355328) (hbase:base≤w.heap.size)
  (h:∀v' w',w'.ownsRow base e size v' (n+m) (xs++news)→w.grownBy w' v.ownBlock→(v'.ownBlock=v.ownBlock∨v'.ownBlock=some w.heap.size)→K (a.put o.dst v') w'):
  if Region.wanted o (yielded ops a.tmps)=true then Oper.wp P o a w K Q else E:=by
 have hw:Region.wanted o (yielded ops a.tmps)=true:=by simp[Region.wanted,hgd]
 rw[if_pos hw];exact zbd w s x t ho base e i z size bytes ht hi hz hsize hby hzs hsz v n xs hs hown B vx m news hx hr h1 h63 hbytes hbase h
end
def z7p(T size n:Nat)(xs:List Value)(w:World)(e:Ending)(w':World):Prop:=∃v,e=.returned v∧w'.ownsRow w.heap.size T size v n xs∧Fr [] w w'
theorem z05{w:World}{base e size n:Nat}{v:Value}{xs:List Value}(h:w.ownsRow base e size v n xs):∃A c,v=.slice A n c∧(A=none∨∃g,A=some ⟨g,0,none⟩)∧n≤c∧c≤maxLen:=by
 rcases h.2 with⟨rfl,rfl⟩|⟨g,cap,cur,hv,_,_,h1,h2,_⟩
 ·exact⟨none,0,rfl,.inl rfl,Nat.le_refl _,Nat.zero_le _⟩
 ·exact⟨_,cap,hv,.inr ⟨g,rfl⟩,h1,h2⟩
theorem z38(l:List ByteArray):∀u∈z04 l,u.oneCell'=true:=by
 intro u hu;simp[z04] at hu;obtain⟨s,_,rfl⟩:=hu;rfl
theorem za4(l:List (ByteArray×ByteArray)):∀u∈z0f l,u.oneCell'=true:=by
 intro u hu;simp[z0f] at hu;obtain⟨a,b,_,h⟩:=hu;rcases h with rfl|rfl <;> rfl
theorem z4z(l:List (Int×ByteArray)):∀u∈z07 l,u.oneCell'=true:=by
 intro u hu;simp[z07] at hu;obtain⟨a,b,_,h⟩:=hu;rcases h with rfl|rfl <;> rfl
theorem z4r(a b:List ByteArray):z04 (a++b)=z04 a++z04 b:=by simp[z04]
theorem z73(a b:List (ByteArray×ByteArray)):z0f (a++b)=z0f a++z0f b:=by simp[z0f]
theorem z39(a b:List (Int×ByteArray)):z07 (a++b)=z07 a++z07 b:=by simp[z07]
section
variable {w w':World} {g t base e k n cap:Nat} {cs xs:List Value}
theorem z15:∀(vs:List Value) (o:Nat) (w:World) (cs:List Value),Whole w g t cs→o+vs.length≤cs.length→Whole (w.setCells g o vs) g t (cs.take o++vs++cs.drop (o+vs.length))
 | [],o,w,cs,h,_=>by
  have:cs.take o++[]++cs.drop (o+([]:List Value).length)=cs:=by simp
  rw[this];exact h
 | v :: r,o,w,cs,h,hl=>by
  have hl':o+(r.length+1)≤cs.length:=by simpa using hl
  have ih:=z15 r (o+1) _ _ (h.set_ o v) (by simp;omega)
  have e:(cs.set o v).take (o+1)++r++(cs.set o v).drop (o+1+r.length)=cs.take o++v :: r++cs.drop (o+(v :: r).length):=by
   have h1:(cs.set o v).take (o+1)=cs.take o++[v]:=by
    rw[List.set_eq_take_append_cons_drop,if_pos (by omega)];rw[show o+1=(cs.take o).length+1 by rw[List.length_take];omega,List.take_length_add_append];simp
   have h2:(cs.set o v).drop (o+1+r.length)=cs.drop (o+(v :: r).length):=by
    rw[List.drop_set_of_lt (by omega)];simp only[List.length_cons];rw[show o+1+r.length=o+(r.length+1) by omega]
   rw[h1,h2];simp
  rw[e] at ih;exact ih
theorem z08:∀(vs:List Value) (o:Nat) (w:World),w.grownBy (w.setCells g o vs) (some g)
 | [],o,w=>⟨rfl,rfl,rfl,Nat.le_refl _,fun _ _ _=>rfl⟩
 | v :: r,o,w=>by
  have ih:=z08 r (o+1) (w.setCell ⟨g,o,none⟩ v);refine⟨ih.os,ih.tape,ih.output,by have:=ih.size;rw[show(w.setCell ⟨g,o,none⟩ v).heap.size=w.heap.size by simp[World.setCell]] at this;exact this,fun j hj hne=>?_⟩;have h1:=ih.block j (by simpa[World.setCell] using hj) hne;exact h1.trans (Below.heap_setCell w ⟨g,o,none⟩ v j (fun e=>hne (by simp[e])))
theorem z23{r:Option Nat}(h:w.drew.grownBy w' r):w.grownBy w' r:=⟨h.os,h.tape,h.output,h.size,h.block⟩
theorem z88{r:Option Nat}(h:w.grownBy w' r):w.grownBy w'.drew r:=⟨h.os,h.tape,h.output,h.size,h.block⟩
theorem z87(w:World)(r:Option Nat):w.grownBy w r:=⟨rfl,rfl,rfl,Nat.le_refl _,fun _ _ _=>rfl⟩
theorem z24(h:w.ownsRow base e k (.slice (some ⟨g,0,none⟩) n cap) n xs):∃cur,Whole w g e cur∧cur.length=cap * k∧cur.take (n * k)=xs∧base≤g∧n≤cap∧cap≤maxLen∧xs.length=n * k:=by
 rcases h.2 with⟨h',_⟩|⟨g',cap',cur,h',hb,hg,hnc,hcm,hcs,ht⟩
 ·cases h'
 ·cases h';exact⟨cur.toList,by unfold Whole;simpa using hg,by simpa using hcs,ht,hb,hnc,hcm,h.1⟩
theorem z2w{cur:List Value}(hw:Whole w g e cur)(hl:cur.length=cap * k)(hb:base≤g)(hn:n≤cap)(hm:cap≤maxLen):w.ownsRow base e k (.slice (some ⟨g,0,none⟩) n cap) n (cur.take (n * k)):=by
 refine⟨?_,.inr ⟨g,cap,cur.toArray,rfl,hb,hw,hn,hm,by simpa using hl,by simp⟩⟩;rw[List.length_take,hl];have:n * k≤cap * k:=Nat.mul_le_mul_right _ hn;omega
theorem z0n(h:Whole w g t cs){o m:Nat}(ho:o+m≤cs.length):∀j,j < m→(w.cell? ⟨g,o+j,none⟩).isSome=true∧w.frozen? ⟨g,o+j,none⟩=false:=by
 intro j hj;refine⟨?_,h.frozen _⟩;rw[h.cell,List.getElem?_eq_getElem (by omega)];rfl
section
variable {P:Program}
theorem z3f(w:World)(t e ty:TypeId)(z:Value)(ht:P.underlying t=some (.slice e))(hv:∀w,(zeroValue e).run P w=.ok z w)(h1:∀u∈z.cells.toList,u.oneCell'=true)(b o n c:Nat)(hn:0 < n)
  (hc:∀j,j < n * z.cells.size→(w.cell? ⟨b,o+j,none⟩).isSome=true∧w.frozen? ⟨b,o+j,none⟩=false):
  (Builtin.clear_ #[t] ty #[.slice (some ⟨b,o,none⟩) n c]).run P w=.ok (.tuple #[]) (w.setCells b o (Builtin.zeroCells z.cells n).toList):=by
 have hl:(Builtin.zeroCells z.cells n).toList.length=n * z.cells.size:=by simp[Builtin.zeroCells]
 have hst:=run_storeCells_cells (P:=P) b o (Builtin.zeroCells z.cells n).toList 0 w (by rw[hl];simpa using fun j hj=>(hc j hj).1) (by rw[hl];simpa using fun j hj=>(hc j hj).2) (by
  intro v hv';simp[Builtin.zeroCells] at hv';obtain⟨i,hi,rfl⟩:=hv'
  have hpos:0 < z.cells.size:=by
   rcases Nat.eq_zero_or_pos z.cells.size with h0|h0
   ·rw[h0] at hi;omega
   ·exact h0
  rw[getElem!_pos z.cells (i % z.cells.size) (Nat.mod_lt _ hpos)];exact h1 _ (by simp))
 simp only[Nat.add_zero] at hst;obtain⟨m,rfl⟩:∃m,n=m+1:=⟨n - 1,by omega⟩;simp[Builtin.clear_,run_underlying ht,hv,hst]
end
theorem zjo{i j:Nat}{zs:List Value}(h:w.ownsRow base e k (.slice (some ⟨g,0,none⟩) n cap) n xs)(hij:i < j)(hj:j≤n)(hz:zs.length=(j - i) * k):
  ∃cur,Whole (w.setCells g (i * k) (xs.drop (j * k))) g e cur∧cur.length=cap * k ∧
   ((w.setCells g (i * k) (xs.drop (j * k))).setCells g ((i+(n - j)) * k) zs).ownsRow base e k (.slice (some ⟨g,0,none⟩) (i+(n - j)) cap) (i+(n - j)) (xs.take (i * k)++xs.drop (j * k)):=by
 obtain⟨cur,hw,hl,ht,hb,hn,hm,hxl⟩:=z24 h;have hdl:(xs.drop (j * k)).length=(n - j) * k:=by rw[List.length_drop,hxl,Nat.sub_mul]
 have e1:i * k+(n - j) * k=(i+(n - j)) * k:=(Nat.add_mul _ _ _).symm;have b1:(i+(n - j)) * k≤cap * k:=Nat.mul_le_mul_right _ (by omega);have e2:(i+(n - j)) * k+(j - i) * k=n * k:=by rw[←Nat.add_mul];congr 1;omega
 have b2:n * k≤cap * k:=Nat.mul_le_mul_right _ hn;have W1:=z15 (xs.drop (j * k)) (i * k) w cur hw (by rw[hdl,hl,e1];exact b1)
 have l1:(cur.take (i * k)++xs.drop (j * k)++cur.drop (i * k+(xs.drop (j * k)).length)).length=cap * k:=by
  simp only[List.length_append,List.length_take,List.length_drop,hl] at hdl ⊢;omega
 refine⟨_,W1,l1,?_⟩;have W2:=z15 zs ((i+(n - j)) * k) _ _ W1 (by rw[l1,hz];omega)
 have l2:∀c1:List Value,c1.length=cap * k→(c1.take ((i+(n - j)) * k)++zs++c1.drop ((i+(n - j)) * k+zs.length)).length=cap * k:=by
  intro c1 hc1;simp only[List.length_append,List.length_take,List.length_drop,hz,hc1];omega
 have:=z2w (cap:=cap) (k:=k) (n:=i+(n - j)) (base:=base) W2 (l2 _ l1) hb (by omega) hm
 have e3:List.take ((i+(n - j)) * k) ((cur.take (i * k)++xs.drop (j * k)++cur.drop (i * k+(xs.drop (j * k)).length)).take ((i+(n - j)) * k)++zs++(cur.take (i * k)++xs.drop (j * k)++cur.drop (i * k+(xs.drop (j * k)).length)).drop ((i+(n - j)) * k+zs.length))=xs.take (i * k)++xs.drop (j * k):=by
  have e4:(cur.take (i * k)++xs.drop (j * k)).length=(i+(n - j)) * k:=by
   rw[List.length_append,hdl,List.length_take,hl];omega
  rw[List.append_assoc (cur.take _),←List.append_assoc (cur.take (i * k))];rw[List.take_append_of_le_length (l₁:=cur.take (i * k)++xs.drop (j * k)) (by omega)];rw[List.take_of_length_le (l:=cur.take (i * k)++xs.drop (j * k)) (by omega)];rw[List.append_assoc,List.take_append_of_le_length (by omega),List.take_of_length_le (by omega)];congr 1;rw[←ht,List.take_take,Nat.min_eq_left (by have:=Nat.mul_le_mul_right k (show i≤n by omega);omega)]
 rw[e3] at this;exact this
end
end Go.Proofs.YtmalkppcahogjaaGreatDoor
namespace Go.Proofs.YtmalkppcahogjaaGreatDoor
open Lib (hid)
open Go.Proofs.Tryz (prog)
structure Kept{α:Type}(p:α→Bool)(l d:List α)(i j:Nat):Prop where
 len:d.length=l.length
 ahead:d.take i=(l.take j).filter fun x=>!p x
 behind:∀t,j≤t→d[t]? = l[t]?
 lt:i < j
 le:j≤l.length
theorem Kept.start{α:Type}{p:α→Bool}{l:List α}{k:Nat}{s:α}(h:∀(j:Nat) t,j < k→l[j]? = some t→p t=false)(hk:l[k]? = some s)(hs:p s=true):Kept p l l k (k+1):=by
 have hlt:k < l.length:=(List.getElem?_eq_some_iff.1 hk).1;refine⟨rfl,?_,fun _ _=>rfl,by omega,by omega⟩;rw[List.take_add_one,hk,Option.toList_some,List.filter_append,List.filter_eq_self.2]
 ·simp[hs]
 ·intro a ha;obtain⟨j,hj⟩:=List.getElem?_of_mem ha;rw[List.getElem?_take] at hj;split at hj
  ·rw[h j a (by assumption) hj];rfl
  ·cases hj
theorem Kept.keep{α:Type}{p:α→Bool}{l d:List α}{i j:Nat}{s:α}(h:Kept p l d i j)(hj:l[j]? = some s)(hs:p s=false):Kept p l (d.set i s) (i+1) (j+1):=by
 have hlt:j < l.length:=(List.getElem?_eq_some_iff.1 hj).1;have:=h.lt;have:=h.len;refine⟨by simp[h.len],?_,fun t ht=>?_,by omega,by omega⟩
 ·rw[List.take_add_one,List.getElem?_set_self (by omega),Option.toList_some,List.take_set_of_le (Nat.le_refl _),h.ahead,List.take_add_one,hj,Option.toList_some,List.filter_append];simp[hs]
 ·rw[List.getElem?_set_ne (by omega)];exact h.behind t (by omega)
theorem Kept.skip{α:Type}{p:α→Bool}{l d:List α}{i j:Nat}{s:α}(h:Kept p l d i j)(hj:l[j]? = some s)(hs:p s=true):Kept p l d i (j+1):=by
 have hlt:j < l.length:=(List.getElem?_eq_some_iff.1 hj).1;have:=h.lt;refine⟨h.len,?_,fun t ht=>h.behind t (by omega),by omega,by omega⟩;rw[h.ahead,List.take_add_one,hj,Option.toList_some,List.filter_append];simp[hs]
theorem Kept.done{α:Type}{p:α→Bool}{l d:List α}{i:Nat}(h:Kept p l d i l.length):d.take i=l.filter fun x=>!p x:=by
 have:=h.ahead;rwa[List.take_length] at this
theorem z6p{α:Type}(p:α→Bool)(l:List α):(z34 p l=-1∧(l.filter fun x=>!p x)=l)∨∃(k:Nat) (s:α),z34 p l=k∧k < l.length∧Kept p l l k (k+1):=by
 cases hf:l.findIdx? p with
 | none=>
  refine .inl ⟨by unfold z34;rw[hf],?_⟩;rw[List.filter_eq_self];rw[List.findIdx?_eq_none_iff] at hf;intro a ha;simp[hf a ha]
 | some k=>
  rw[List.findIdx?_eq_some_iff_getElem] at hf;obtain⟨hlt,he,hno⟩:=hf;refine .inr ⟨k,l[k],?_,hlt,Kept.start (s:=l[k]) (fun j t hj ht=>?_) (List.getElem?_eq_getElem hlt) he⟩
  ·exact z2i (fun j t hj ht=>by
    have:=hno j hj;obtain⟨hj',e⟩:=List.getElem?_eq_some_iff.1 ht;rw[←e];simpa using this) (List.getElem?_eq_getElem hlt) he
  ·have:=hno j hj;obtain⟨hj',e⟩:=List.getElem?_eq_some_iff.1 ht;rw[←e];simpa using this
theorem z1t{P:Program}{f:FuncId}{fn:Func}{c:Code}(hf:P.funcs[f]? = some fn)(hn:(fn.name == "runtime.NumGoroutine")=false)(hb:fn.body=some c)(args:Array Value)(w:World):(callFunc f args).run P w=.ok (.enter f args) w:=by
 have h1:fn.name ≠ "runtime.NumGoroutine" := by simpa using hn
 simp[callFunc,hf,h1,hb,mark]
def z2f:Value→List Nat
 | .slice (some a) _ _=>[a.block]
 | _=>[]
theorem z3p{w w':World}{v:Value}(h:w.grownBy w' v.ownBlock):Fr (z2f v) w w':=by
 refine(Fr.refl _ w).grown h (fun k hk=>.inl ?_);unfold Value.ownBlock at hk;unfold z2f;split at hk
 ·cases hk;simp
 ·cases hk
theorem z1f{w:World}{base e size n:Nat}{v:Value}{xs:List Value}(h:w.ownsRow base e size v n xs){k:Nat}(hk:k∈z2f v):base≤k:=by
 unfold z2f at hk;split at hk
 ·simp at hk;subst hk;exact(h.lt _ rfl).1
 ·cases hk
theorem z01{w w':World}{S:List Nat}(h:Fr S w.drew w'):Fr S w w':=⟨h.os,h.tape,h.output,h.size,h.block⟩
theorem zb0(l:List ByteArray)(i:Nat)(s:ByteArray):z04 (l.set i s)=(z04 l).set i (.string s):=by simp[z04,List.map_set]
theorem zaw:∀(l:List (ByteArray×ByteArray)) (i:Nat) (s:ByteArray×ByteArray),z0f (l.set i s)=((z0f l).set (i * 2) (.string s.1)).set (i * 2+1) (.string s.2)
 | [],i,s=>rfl
 | q :: l,0,s=>rfl
 | q :: l,i+1,s=>by
  have ih:=zaw l i s;rw[List.set_cons_succ];show [Value.string q.1,.string q.2]++z0f (l.set i s)=(([Value.string q.1,.string q.2]++z0f l).set ((i+1) * 2) _).set ((i+1) * 2+1) _;rw[ih,show(i+1) * 2=i * 2+1+1 by omega];rfl
theorem zd4:∀(l:List (Int×ByteArray)) (i:Nat) (s:Int×ByteArray),z07 (l.set i s)=((z07 l).set (i * 2) (.int .i64 s.1)).set (i * 2+1) (.string s.2)
 | [],i,s=>rfl
 | q :: l,0,s=>rfl
 | q :: l,i+1,s=>by
  have ih:=zd4 l i s;rw[List.set_cons_succ];show [Value.int .i64 q.1,.string q.2]++z07 (l.set i s)=(([Value.int .i64 q.1,.string q.2]++z07 l).set ((i+1) * 2) _).set ((i+1) * 2+1) _;rw[ih,show(i+1) * 2=i * 2+1+1 by omega];rfl
theorem z6u:∀(l:List (ByteArray×ByteArray)) (i:Nat),(z0f l).take (i * 2)=z0f (l.take i)
 | [],i=>by simp[z0f]
 | q :: l,0=>rfl
 | q :: l,i+1=>by
  have ih:=z6u l i;rw[List.take_succ_cons,show(i+1) * 2=i * 2+1+1 by omega];show([Value.string q.1,.string q.2]++z0f l).take (i * 2+1+1)=[Value.string q.1,.string q.2]++z0f (l.take i);rw[←ih];rfl
theorem z3l:∀(l:List (Int×ByteArray)) (i:Nat),(z07 l).take (i * 2)=z07 (l.take i)
 | [],i=>by simp[z07]
 | q :: l,0=>rfl
 | q :: l,i+1=>by
  have ih:=z3l l i;rw[List.take_succ_cons,show(i+1) * 2=i * 2+1+1 by omega];show([Value.int .i64 q.1,.string q.2]++z07 l).take (i * 2+1+1)=[Value.int .i64 q.1,.string q.2]++z07 (l.take i);rw[←ih];rfl
theorem zk5(l:List ByteArray)(i:Nat):(z04 l).take (i * 1)=z04 (l.take i):=by simp[z04,List.map_take]
end Go.Proofs.YtmalkppcahogjaaGreatDoor
