/- Contracts that the proof of E3 uses. No condition beyond those in each theorem. -/
import Derived.Below
import Derived.BigQuiet
import Derived.Calls
import Derived.Deep.AppendLies
import Derived.Deep.Draws
import Derived.Deep.OwnRows
import Derived.Deep.QuietTactic
import Derived.Laws.OwnMore
import Derived.Lib.AtoiAll
import Derived.Lib.Bytealg
import Derived.Lib.Hide
import Derived.Lib.IndexMore
import Derived.Lib.ItoaNum
import Derived.LoopTactic
import Derived.Maps.AppendAt
import Derived.Outline
import Derived.OwnWalk
import Derived.WalkKit
import Derived.WalkLawsBesides
import Derived.WalkSpells
set_option linter.unusedVariables false
set_option linter.unusedSimpArgs false
set_option maxHeartbeats 8000000
set_option maxRecDepth 100000
namespace Go.Proofs.YtamgdmiopinidaaGreatDoor
open Go.RowKit
def Whole(w:World)(g:Nat)(t:TypeId)(cs:List Value):Prop:=w.heap[g]? = some (.cells cs.toArray t (0,0))
structure Fr(S:List Nat)(a b:World):Prop where
 os:b.os=a.os
 tape:b.tape=a.tape
 output:b.output=a.output
 size:a.heap.size≤b.heap.size
 block:∀k,k < a.heap.size→k∉S→b.heap[k]? = a.heap[k]?
section
variable {a b c w w':World} {S T:List Nat} {g:Nat} {t:TypeId} {cs:List Value}
theorem Fr.refl(S:List Nat)(w:World):Fr S w w:=⟨rfl,rfl,rfl,Nat.le_refl _,fun _ _ _=>rfl⟩
theorem Fr.trans(h:Fr S a b)(k:Fr S b c):Fr S a c:=
 ⟨k.os.trans h.os,k.tape.trans h.tape,k.output.trans h.output,Nat.le_trans h.size k.size,fun i hi hn=>(k.block i (Nat.lt_of_lt_of_le hi h.size) hn).trans (h.block i hi hn)⟩
theorem Fr.more(h:Fr S a b)(hs:∀k,k∈S→k∈T∨a.heap.size≤k):Fr T a b:=
 ⟨h.os,h.tape,h.output,h.size,fun i hi hn=>h.block i hi (fun hm=>by
  rcases hs i hm with hT|hT
  ·exact hn hT
  ·omega)⟩
theorem Fr.up(h:Fr [] a b):Fr T a b:=h.more (fun k hk=>absurd hk (by simp))
theorem Fr.step(h:Fr S a b)(k:Fr T b c)(hT:∀x,x∈T→x∈S∨a.heap.size≤x):Fr S a c:=
 ⟨k.os.trans h.os,k.tape.trans h.tape,k.output.trans h.output,Nat.le_trans h.size k.size,fun i hi hn=>
  (k.block i (Nat.lt_of_lt_of_le hi h.size) (fun hm=>by
   rcases hT i hm with h1|h1
   ·exact hn h1
   ·omega)).trans (h.block i hi hn)⟩
theorem Fr.drew(h:Fr S a b):Fr S a b.drew:=⟨h.os,h.tape,h.output,h.size,h.block⟩
theorem Fr.drewN(h:Fr S a b)(n:Nat):Fr S a (b.drewN n):=⟨h.os,h.tape,h.output,h.size,h.block⟩
theorem Fr.alloc(h:Fr S a b)(o:Obj):Fr S a (b.alloc o):=
 ⟨h.os,h.tape,h.output,Nat.le_trans h.size (by simp),fun i hi hn=>(Below.heap_alloc b o i (Nat.lt_of_lt_of_le hi h.size)).trans (h.block i hi hn)⟩
theorem Fr.setCell(h:Fr S a b){p:Addr}(hp:p.block∈S∨a.heap.size≤p.block)(u:Value):Fr S a (b.setCell p u):=
 ⟨h.os,h.tape,h.output,by simpa[World.setCell] using h.size,fun i hi hn=>(Below.heap_setCell b p u i (by
  rintro rfl
  rcases hp with hp|hp
  ·exact hn hp
  ·omega)).trans (h.block i hi hn)⟩
theorem Fr.grown(h:Fr S a b){row:Option Nat}(hg:b.grownBy c row)(hr:∀k,row=some k→k∈S∨a.heap.size≤k):Fr S a c:=
 ⟨hg.os.trans h.os,hg.tape.trans h.tape,hg.output.trans h.output,Nat.le_trans h.size hg.size,fun i hi hn=>(hg.block i (Nat.lt_of_lt_of_le hi h.size) (fun e=>by
  rcases hr i e.symm with h1|h1
  ·exact hn h1
  ·omega)).trans (h.block i hi hn)⟩
theorem Fr.of_below(h:Below a.heap.size a b):Fr S a b:=⟨h.os,h.tape,h.output,h.size,fun i hi _=>h.block i hi⟩
theorem Fr.below(h:Fr [] a b):Below a.heap.size a b:=⟨h.os,h.tape,h.output,h.size,fun i hi=>h.block i hi (by simp)⟩
theorem Fr.belowOf{B:Nat}(h:Fr S a b)(hB:B≤a.heap.size)(hS:∀k,k∈S→B≤k):Below B a b:=
 ⟨h.os,h.tape,h.output,h.size,fun i hi=>h.block i (by omega) (fun hm=>by have:=hS i hm;omega)⟩
theorem Fr.cell?(h:Fr S a b){p:Addr}(hp:p.block < a.heap.size)(hn:p.block∉S):b.cell? p=a.cell? p:=World.cell?_of_block (h.block _ hp hn)
theorem Fr.cell(h:Fr S a b){p:Addr}{v:Value}(hc:a.cell? p=some v)(hn:p.block∉S):b.cell? p=some v:=
 (h.cell? (World.block_lt_of_cell? a p hc) hn).trans hc
theorem Whole.lt(h:Whole w g t cs):g < w.heap.size:=by
 rcases Nat.lt_or_ge g w.heap.size with hlt|hge
 ·exact hlt
 ·unfold Whole at h;rw[Array.getElem?_eq_none hge] at h;cases h
theorem Whole.cell(h:Whole w g t cs)(i:Nat):w.cell? ⟨g,i,none⟩=cs[i]? := by
 rw[cell_of_row w g i cs.toArray t (0,0) h];simp
theorem Whole.frozen(h:Whole w g t cs)(i:Nat):w.frozen? ⟨g,i,none⟩=false:=by
 unfold Whole at h
 simp[World.frozen?,h]
theorem Whole.new(w:World)(t:TypeId)(cs:List Value):Whole (w.alloc (.cells cs.toArray t)) w.heap.size t cs:=heap_alloc_new w _
theorem Whole.drew(h:Whole w g t cs):Whole w.drew g t cs:=h
theorem Whole.drewN(h:Whole w g t cs)(n:Nat):Whole (w.drewN n) g t cs:=h
theorem Whole.alloc(h:Whole w g t cs)(o:Obj):Whole (w.alloc o) g t cs:=(Below.heap_alloc w o g h.lt).trans h
theorem Whole.set_(h:Whole w g t cs)(i:Nat)(u:Value):Whole (w.setCell ⟨g,i,none⟩ u) g t (cs.set i u):=by
 unfold Whole at h ⊢
 simp[World.setCell,Array.getElem?_modify,h,List.setIfInBounds_toArray]
theorem Whole.far(h:Whole w g t cs){p:Addr}(hp:g≠p.block)(u:Value):Whole (w.setCell p u) g t cs:=(Below.heap_setCell w p u g hp).trans h
theorem Whole.fr(h:Whole w g t cs)(hf:Fr S w w')(hn:g∉S):Whole w' g t cs:=(hf.block g h.lt hn).trans h
theorem Whole.grown{row:Option Nat}(h:Whole w g t cs)(hb:w.grownBy w' row)(hg:some g≠row):Whole w' g t cs:=(hb.block g h.lt hg).trans h
theorem Whole.ne_{g':Nat}{t':TypeId}{cs':List Value}(h:Whole w g t cs)(h':Whole w g' t' cs')(hne:t≠t'):g≠g':=by
 rintro rfl
 unfold Whole at h h'
 rw[h] at h'
 injection h' with h'
 injection h' with _ ht
 exact hne ht
end
def Sl(w:World)(B size:Nat)(v:Value)(n:Nat)(xs:List Value):Prop:=
 ∃A c,v=.slice A n c∧xs.length=n * size∧n≤c∧c≤maxLen ∧
  (0 < n→∃b off,A=some ⟨b,off,none⟩∧b < B∧∀j u,xs[j]? = some u→w.cell? ⟨b,off+j,none⟩=some u)
section
variable {w w':World} {B B' size n:Nat} {v:Value} {xs:List Value} {S:List Nat}
theorem Sl.keep(h:Sl w B size v n xs)(hk:∀p:Addr,p.block < B→w'.cell? p=w.cell? p):Sl w' B size v n xs:=by
 obtain⟨A,c,e,hl,hc,hm,hr⟩:=h
 refine⟨A,c,e,hl,hc,hm,fun hn=>?_⟩
 obtain⟨b,off,e2,hb,hcell⟩:=hr hn
 exact⟨b,off,e2,hb,fun j u hu=>(hk ⟨b,off+j,none⟩ hb).trans (hcell j u hu)⟩
theorem Sl.more(h:Sl w B size v n xs)(hB:B≤B'):Sl w B' size v n xs:=by
 obtain⟨A,c,e,hl,hc,hm,hr⟩:=h
 refine⟨A,c,e,hl,hc,hm,fun hn=>?_⟩
 obtain⟨b,off,e2,hb,hcell⟩:=hr hn
 exact⟨b,off,e2,by omega,hcell⟩
theorem Sl.below(h:Sl w B size v n xs)(hb:Below B w w'):Sl w' B size v n xs:=h.keep fun _ hp=>hb.cell hp
theorem Sl.fr(h:Sl w B size v n xs)(hf:Fr S w w')(hB:B≤w.heap.size)(hS:∀k,k∈S→B≤k):Sl w' B size v n xs:=
 h.below (hf.belowOf hB hS)
theorem Sl.nil(w:World)(B size:Nat):Sl w B size (.slice none 0 0) 0 []:=⟨none,0,rfl,by simp,Nat.le_refl _,by simp[maxLen],fun h=>absurd h (by omega)⟩
end
theorem Fr.drewN_of(w:World)(n:Nat)(S:List Nat):Fr S w (w.drewN n):=(Fr.refl S w).drewN n
def z04(p:ByteArray)(i:Nat):Nat:=(p.data.toList.getD i 0).toNat
theorem z1k(p:ByteArray)(i:Nat)(h:i < p.size):(p[i]'h).toNat=z04 p i:=by
 have h':i < p.data.toList.length:=by simpa using h
 have:p.data.toList.getD i 0=p[i]:=by
  rw[List.getD_eq_getElem?_getD,List.getElem?_eq_getElem h']
  rfl
 rw[z04,this]
theorem z2a(p:ByteArray)(i:Nat):z04 p i < 256:=UInt8.toNat_lt _
inductive Part where
 | star
 | any
 | lit (c:Nat)
 | cls (neg:Bool) (rs:List (Nat×Nat))
def z2p(rs:List (Nat×Nat))(c:Nat):Bool:=rs.any fun r=>decide (r.1≤c)&&decide (c≤r.2)
def Part.may:Part→Nat→Bool
 | .star,_=>false
 | .any,_=>true
 | .lit x,c=>decide (c=x)
 | .cls neg rs,c=>z2p rs c != neg
def z5w(p:ByteArray):Nat→Nat→Option (List (Nat×Nat)×Nat)
 | 0,_=>none
 | n+1,k=>
  if k < p.size then
   if z04 p k=93 then some ([],k)
   else if k+2 < p.size∧z04 p (k+1)=45∧z04 p (k+2)≠93 then
    if z04 p (k+2) < z04 p k then none
    else (z5w p n (k+3)).map fun x=>((z04 p k,z04 p (k+2)) :: x.1,x.2)
   else (z5w p n (k+1)).map fun x=>((z04 p k,z04 p k) :: x.1,x.2)
  else none
theorem zax(p:ByteArray):∀(m n k:Nat),p.size+1≤n+k→p.size+1≤m+k→z5w p n k=z5w p m k:=by
 intro m
 induction m with
 | zero=>
  intro n k h1 h2
  cases n with
  | zero=>rfl
  | succ n=>simp only[z5w];rw[if_neg (by omega)]
 | succ m ih=>
  intro n k h1 h2
  cases n with
  | zero=>simp only[z5w];rw[if_neg (by omega)]
  | succ n=>
   simp only[z5w]
   rw[ih n (k+3) (by omega) (by omega),ih n (k+1) (by omega) (by omega)]
def cls(p:ByteArray)(k:Nat):Option (List (Nat×Nat)×Nat):=z5w p (p.size+2 - k) k
theorem z7u(p:ByteArray)(k:Nat):cls p k =
  if k < p.size then
   if z04 p k=93 then some ([],k)
   else if k+2 < p.size∧z04 p (k+1)=45∧z04 p (k+2)≠93 then
    if z04 p (k+2) < z04 p k then none
    else (cls p (k+3)).map fun x=>((z04 p k,z04 p (k+2)) :: x.1,x.2)
   else (cls p (k+1)).map fun x=>((z04 p k,z04 p k) :: x.1,x.2)
  else none:=by
 by_cases h:k < p.size
 ·obtain⟨m,hm⟩:∃m,p.size+2 - k=m+1:=⟨p.size+1 - k,by omega⟩
  unfold cls
  rw[hm]
  simp only[z5w]
  rw[zax p (p.size+2 - (k+3)) m (k+3) (by omega) (by omega),zax p (p.size+2 - (k+1)) m (k+1) (by omega) (by omega)]
 ·rw[if_neg h]
  unfold cls
  cases p.size+2 - k with
  | zero=>rfl
  | succ m=>simp only[z5w];rw[if_neg h]
theorem zwt(p:ByteArray):∀(d k:Nat),p.size≤k+d→∀x,cls p k=some x→k≤x.2∧x.2 < p.size∧z04 p x.2=93:=by
 intro d
 induction d using Nat.strongRecOn with
 | _ d ih=>
  intro k hd x hx
  rw[z7u] at hx
  by_cases hk:k < p.size
  ·rw[if_pos hk] at hx
   by_cases h1:z04 p k=93
   ·rw[if_pos h1] at hx
    cases hx
    exact⟨Nat.le_refl _,hk,h1⟩
   ·rw[if_neg h1] at hx
    by_cases h2:k+2 < p.size∧z04 p (k+1)=45∧z04 p (k+2)≠93
    ·rw[if_pos h2] at hx
     by_cases h3:z04 p (k+2) < z04 p k
     ·rw[if_pos h3] at hx;cases hx
     ·rw[if_neg h3] at hx
      obtain⟨y,hy,rfl⟩:=Option.map_eq_some_iff.1 hx
      have:=ih (d - 1) (by omega) (k+3) (by omega) y hy
      exact⟨by show k≤y.2;omega,this.2⟩
    ·rw[if_neg h2] at hx
     obtain⟨y,hy,rfl⟩:=Option.map_eq_some_iff.1 hx
     have:=ih (d - 1) (by omega) (k+1) (by omega) y hy
     exact⟨by show k≤y.2;omega,this.2⟩
  ·rw[if_neg hk] at hx;cases hx
def classAns(p:ByteArray)(k:Nat)(first:Bool):Nat×Bool:=
 match cls p k with
 | none=>(0,false)
 | some x=>(x.2,!(first&&x.1.isEmpty))
def z35(p:ByteArray)(k:Nat):Option (Part×Nat):=
 if k < p.size then
  if z04 p k=42 then some (.star,k+1)
  else if z04 p k=63 then some (.any,k+1)
  else if z04 p k=91 then
   let neg:=decide (k+1 < p.size∧z04 p (k+1)=94)
   match cls p (if neg then k+2 else k+1) with
   | none=>none
   | some x=>if x.1.isEmpty then none else some (.cls neg x.1,x.2+1)
  else if z04 p k=92 then if k+1 < p.size then some (.lit (z04 p (k+1)),k+2) else none
  else some (.lit (z04 p k),k+1)
 else none
theorem z90{p:ByteArray}{k:Nat}{x:Part×Nat}(h:z35 p k=some x):k < x.2∧x.2≤p.size:=by
 unfold z35 at h
 split at h
 ·split at h
  ·cases h;exact⟨by show k < k+1;omega,by show k+1≤_;omega⟩
  ·split at h
   ·cases h;exact⟨by show k < k+1;omega,by show k+1≤_;omega⟩
   ·split at h
    ·simp only at h
     split at h
     ·cases h
     ·rename_i y hy
      split at h
      ·cases h
      ·cases h
       have:=zwt p p.size _ (by omega) y hy
       refine⟨?_,by show y.2+1≤_;omega⟩
       show k < y.2+1
       split at this <;> omega
    ·split at h
     ·split at h
      ·cases h;exact⟨by show k < k+2;omega,by show k+2≤_;omega⟩
      ·cases h
     ·cases h;exact⟨by show k < k+1;omega,by show k+1≤_;omega⟩
 ·cases h
def z73(p:ByteArray):Nat→Nat→Option (List (Nat×Part))
 | 0,k=>if k < p.size then none else some []
 | n+1,k=>
  if k < p.size then
   match z35 p k with
   | none=>none
   | some x=>(z73 p n x.2).map ((k,x.1) :: ·)
  else some []
theorem zjx(p:ByteArray):∀(m n k:Nat),p.size≤n+k→p.size≤m+k→z73 p n k=z73 p m k:=by
 intro m
 induction m with
 | zero=>
  intro n k h1 h2
  have hk:¬k < p.size:=by omega
  cases n with
  | zero=>rfl
  | succ n=>simp only[z73];rw[if_neg hk,if_neg hk]
 | succ m ih=>
  intro n k h1 h2
  cases n with
  | zero=>
   have hk:¬k < p.size:=by omega
   simp only[z73];rw[if_neg hk,if_neg hk]
  | succ n=>
   simp only[z73]
   by_cases hk:k < p.size
   ·rw[if_pos hk,if_pos hk]
    cases h:z35 p k with
    | none=>rfl
    | some x=>
     have:=z90 h
     simp only
     rw[ih n x.2 (by omega) (by omega)]
   ·rw[if_neg hk,if_neg hk]
def z2f(p:ByteArray)(k:Nat):Option (List (Nat×Part)):=z73 p (p.size - k) k
theorem z5v(p:ByteArray)(k:Nat):z2f p k =
  if k < p.size then
   match z35 p k with
   | none=>none
   | some x=>(z2f p x.2).map ((k,x.1) :: ·)
  else some []:=by
 unfold z2f
 by_cases hk:k < p.size
 ·rw[if_pos hk]
  obtain⟨m,hm⟩:∃m,p.size - k=m+1:=⟨p.size - k - 1,by omega⟩
  rw[hm]
  simp only[z73]
  rw[if_pos hk]
  cases h:z35 p k with
  | none=>rfl
  | some x=>
   have:=z90 h
   simp only
   rw[zjx p (p.size - x.2) m x.2 (by omega) (by omega)]
 ·rw[if_neg hk,show p.size - k=0 by omega]
  simp only[z73]
  rw[if_neg hk]
theorem z9m(p:ByteArray):∀(n k:Nat) (l:List (Nat×Part)),z73 p n k=some l→l.length≤p.size - k
 | 0,k,l,h=>by
  simp only[z73] at h
  split at h
  ·cases h
  ·cases h;simp
 | n+1,k,l,h=>by
  simp only[z73] at h
  split at h
  ·cases hp:z35 p k with
   | none=>rw[hp] at h;cases h
   | some x=>
    rw[hp] at h
    obtain⟨r,hr,rfl⟩:=Option.map_eq_some_iff.1 h
    have h1:=z9m p n x.2 r hr
    have h2:=z90 hp
    simp only[List.length_cons]
    omega
  ·cases h;simp
theorem zgr{p:ByteArray}{l:List (Nat×Part)}(h:z2f p 0=some l):l.length≤p.size:=by
 have:=z9m p _ 0 l h
 omega
def okAt(p:ByteArray)(k:Nat):Bool:=(z2f p k).isSome
def z0y(p:ByteArray):Int:=if 60 < p.size then 2 else if okAt p 0 then 0 else 1
def z3k(P:Part)(f:Nat→Bool)(s:ByteArray):Nat→Bool
 | 0=>match P with
  | .star=>f 0
  | _=>false
 | i+1=>match P with
  | .star=>f (i+1)||z3k P f s i
  | _=>f i&&P.may (z04 s i)
def z3h(ps:List Part)(s:ByteArray):Nat→Bool:=ps.foldl (fun f P=>z3k P f s) (fun i=>decide (i=0))
theorem zfv(ps:List Part)(P:Part)(s:ByteArray):z3h (ps++[P]) s=z3k P (z3h ps s) s:=by simp[z3h]
theorem zf6{ps:List Part}{k:Nat}{P:Part}(h:ps[k]? = some P)(s:ByteArray):z3h (ps.take (k+1)) s=z3k P (z3h (ps.take k) s) s:=by
 rw[List.take_add_one,h,Option.toList_some,zfv]
theorem eqB(p s:ByteArray):(p.toList==s.toList)=decide (p=s):=by
 by_cases h:p=s
 ·subst h;simp
 ·have:p.toList≠s.toList:=fun e=>h (by
   have:=congrArg List.toArray e
   cases p;cases s
   simpa[ByteArray.toList_eq] using this)
  simp[h,this]
end Go.Proofs.YtamgdmiopinidaaGreatDoor
namespace Go.Proofs.YtamgdmiopinidaaGreatDoor
structure Itm where
 kind:Int
 text:ByteArray
 list:List ByteArray
 pairs:List (ByteArray×ByteArray)
 scores:List (Int×ByteArray)
def z4m(a b:ByteArray):Int:=Lib.compareBytes a.data.toList b.data.toList
def zi6(a b:ByteArray)(i:Nat):Int:=Lib.compareBytes (a.data.toList.drop i) (b.data.toList.drop i)
theorem zmw(a b:ByteArray):zi6 a b 0=z4m a b:=rfl
theorem z93(a:ByteArray)(i:Nat)(h:i < a.size):∃x:UInt8,a.data.toList.drop i=x :: a.data.toList.drop (i+1)∧x.toNat=z04 a i:=by
 have hl:i < a.data.toList.length:=by simpa using h
 refine⟨a.data.toList[i],List.drop_eq_getElem_cons hl,?_⟩
 unfold z04
 rw[List.getD_eq_getElem?_getD,List.getElem?_eq_getElem hl]
 rfl
theorem zll(a b:ByteArray)(i:Nat)(ha:i < a.size)(hb:i < b.size) :
  zi6 a b i=if z04 a i < z04 b i then -1 else if z04 b i < z04 a i then 1 else zi6 a b (i+1):=by
 obtain⟨x,hx,ex⟩:=z93 a i ha
 obtain⟨y,hy,ey⟩:=z93 b i hb
 unfold zi6
 rw[hx,hy,←ex,←ey]
 rfl
theorem zpx(a b:ByteArray)(i:Nat)(ha:i≤a.size)(hb:i≤b.size)(h:¬(i < a.size∧i < b.size)) :
  zi6 a b i=if a.size < b.size then -1 else if b.size < a.size then 1 else 0:=by
 unfold zi6
 by_cases h1:i < a.size
 ·have e:b.size=i:=by omega
  obtain⟨x,hx,_⟩:=z93 a i h1
  have hd:b.data.toList.drop i=[]:=List.drop_of_length_le (by simp;omega)
  rw[hx,hd,if_neg (by omega),if_pos (by omega)]
  rfl
 ·have e:a.size=i:=by omega
  have hd:a.data.toList.drop i=[]:=List.drop_of_length_le (by simp;omega)
  by_cases h2:i < b.size
  ·obtain⟨y,hy,_⟩:=z93 b i h2
   rw[hd,hy,if_pos (by omega)]
   rfl
  ·have hd2:b.data.toList.drop i=[]:=List.drop_of_length_le (by simp;omega)
   rw[hd,hd2,if_neg (by omega),if_neg (by omega)]
   rfl
def z0m(n:Int):Bool:=decide (-999999999≤n)&&decide (n≤999999999)
def z03(l:List ByteArray):List Value:=l.map .string
def z0e(l:List (ByteArray×ByteArray)):List Value:=l.flatMap fun p=>[.string p.1,.string p.2]
def z08(l:List (Int×ByteArray)):List Value:=l.flatMap fun p=>[.int .i64 p.1,.string p.2]
def z0q(w:World)(B:Nat)(v:Value)(x:Itm):Prop:=
 ∃A1 c1 A2 c2 A3 c3,v=.agg #[.int .i64 x.kind,.string x.text,.slice A1 x.list.length c1,.slice A2 x.pairs.length c2,.slice A3 x.scores.length c3] ∧
  Sl w B 1 (.slice A1 x.list.length c1) x.list.length (z03 x.list)∧Sl w B 2 (.slice A2 x.pairs.length c2) x.pairs.length (z0e x.pairs)∧Sl w B 2 (.slice A3 x.scores.length c3) x.scores.length (z08 x.scores)
structure Itm.Small(x:Itm):Prop where
 kind:-9223372036854775808≤x.kind∧x.kind≤9223372036854775807
 text:x.text.size≤281474976710656
 list:x.list.length≤281474976710656
 pairs:x.pairs.length≤281474976710656
 scores:x.scores.length≤281474976710656
 texts:∀s∈x.list,s.size≤281474976710656
 fields:∀p∈x.pairs,p.1.size≤281474976710656∧p.2.size≤281474976710656
 members:∀p∈x.scores,(-9223372036854775808≤p.1∧p.1≤9223372036854775807)∧p.2.size≤281474976710656
theorem z15(l:List ByteArray)(i:Nat)(s:ByteArray)(h:l[i]? = some s):(z03 l)[i]? = some (.string s):=by
 simp[z03,h]
theorem z6k(l:List ByteArray):(z03 l).length=l.length:=by simp[z03]
theorem z0g:∀(l:List (ByteArray×ByteArray)) (i:Nat) (p:ByteArray×ByteArray),l[i]? = some p→(z0e l)[2 * i]? = some (.string p.1)∧(z0e l)[2 * i+1]? = some (.string p.2)
 | [],i,p,h=>by simp at h
 | q :: l,0,p,h=>by
  simp only[List.getElem?_cons_zero,Option.some.injEq] at h
  subst h
  exact⟨rfl,rfl⟩
 | q :: l,i+1,p,h=>by
  have:=z0g l i p (by simpa using h)
  rw[show 2 * (i+1)=2 * i+1+1 by omega]
  exact⟨by simpa[z0e] using this.1,by simpa[z0e] using this.2⟩
theorem z6u:∀l:List (ByteArray×ByteArray),(z0e l).length=2 * l.length
 | []=>rfl
 | q :: l=>by
  have:=z6u l
  simp only[z0e,List.flatMap_cons,List.length_append,List.length_cons,List.length_nil] at this ⊢
  omega
theorem z0b:∀(l:List (Int×ByteArray)) (i:Nat) (p:Int×ByteArray),l[i]? = some p→(z08 l)[2 * i]? = some (.int .i64 p.1)∧(z08 l)[2 * i+1]? = some (.string p.2)
 | [],i,p,h=>by simp at h
 | q :: l,0,p,h=>by
  simp only[List.getElem?_cons_zero,Option.some.injEq] at h
  subst h
  exact⟨rfl,rfl⟩
 | q :: l,i+1,p,h=>by
  have:=z0b l i p (by simpa using h)
  rw[show 2 * (i+1)=2 * i+1+1 by omega]
  exact⟨by simpa[z08] using this.1,by simpa[z08] using this.2⟩
theorem z5z:∀l:List (Int×ByteArray),(z08 l).length=2 * l.length
 | []=>rfl
 | q :: l=>by
  have:=z5z l
  simp only[z08,List.flatMap_cons,List.length_append,List.length_cons,List.length_nil] at this ⊢
  omega
theorem z0q.keep{w w':World}{B:Nat}{v:Value}{x:Itm}(h:z0q w B v x)(hk:∀p:Addr,p.block < B→w'.cell? p=w.cell? p):z0q w' B v x:=by
 obtain⟨A1,c1,A2,c2,A3,c3,e,h1,h2,h3⟩:=h
 exact⟨A1,c1,A2,c2,A3,c3,e,h1.keep hk,h2.keep hk,h3.keep hk⟩
theorem z0q.fr{w w':World}{B:Nat}{S:List Nat}{v:Value}{x:Itm}(h:z0q w B v x)(hf:Fr S w w')(hB:B≤w.heap.size)(hS:∀k,k∈S→B≤k):z0q w' B v x:=
 h.keep fun _ hp=>(hf.belowOf hB hS).cell hp
theorem Sl.at_{w:World}{B size n c:Nat}{A:Option Addr}{xs:List Value}(h:Sl w B size (.slice A n c) n xs)(hn:0 < n) :
  ∃b off,A=some ⟨b,off,none⟩∧b < B∧n≤c∧c≤maxLen∧∀j u,xs[j]? = some u→w.cell? ⟨b,off+j,none⟩=some u:=by
 obtain⟨A',c',e,hl,hc,hm,hr⟩:=h
 cases e
 obtain⟨b,off,e2,hb,hcell⟩:=hr hn
 exact⟨b,off,e2,hb,hc,hm,hcell⟩
def z6g(x:Itm):Bool:=
 (x.kind==1||x.text.size==0)&&(x.kind==2||x.kind==3||x.list.length==0)&&(x.kind==4||x.pairs.length==0)&&(x.kind==5||x.scores.length==0)
def many(x:Itm):Nat:=x.list.length+x.pairs.length+x.scores.length
end Go.Proofs.YtamgdmiopinidaaGreatDoor
namespace Go.Proofs.YtamgdmiopinidaaGreatDoor
open Go.RowKit
section
variable {w w':World} {base e size n:Nat} {v:Value} {xs:List Value}
theorem z9k{b T:Nat}{cs:List Value}(h:w.ownsRow base e size v n xs)(hw:Whole w b T cs)(hT:T≠e):v.ownBlock≠some b:=by
 rcases h.2 with⟨rfl,_⟩|⟨g,cap,cur,rfl,_,hg,_⟩
 ·simp[Value.ownBlock]
 ·intro he
  have:g=b:=by simpa[Value.ownBlock] using he
  subst this
  unfold Whole at hw
  rw[hg] at hw
  injection hw with hw
  injection hw with _ ht
  exact hT ht.symm
theorem zwd{base' e' size' n':Nat}{v':Value}{xs':List Value}(h:w.ownsRow base e size v n xs)(h':w.ownsRow base' e' size' v' n' xs')(hT:e≠e'):v.ownBlock=none∨v.ownBlock≠v'.ownBlock:=by
 rcases h.2 with⟨rfl,_⟩|⟨g,cap,cur,rfl,_,hg,_⟩
 ·exact .inl rfl
 ·refine .inr fun he=>?_
  rcases h'.2 with⟨rfl,_⟩|⟨g',cap',cur',rfl,_,hg',_⟩
  ·simp[Value.ownBlock] at he
  ·have:g=g':=by simpa[Value.ownBlock] using he
   subst this
   rw[hg] at hg'
   injection hg' with hg'
   injection hg' with _ ht
   exact hT ht
theorem z0n{S:List Nat}(h:w.ownsRow base e size v n xs)(hf:Fr S w w')(hn:∀k,v.ownBlock=some k→k∉S):w'.ownsRow base e size v n xs:=by
 refine⟨h.1,?_⟩
 rcases h.2 with hz|⟨g,cap,cur,rfl,hb,hgg,rest⟩
 ·exact .inl hz
 ·refine .inr ⟨g,cap,cur,rfl,hb,?_,rest⟩
  rw[hf.block g (Array.getElem?_eq_some_iff.1 hgg).1 (hn g rfl)]
  exact hgg
theorem z22{p:Addr}(u:Value)(h:w.ownsRow base e size v n xs)(hn:v.ownBlock≠some p.block):(w.setCell p u).ownsRow base e size v n xs:=
 h.kept (row:=some p.block) ⟨rfl,rfl,rfl,by simp[World.setCell],fun k _ hk=>Below.heap_setCell _ _ _ _ (fun e=>hk (by simp[e]))⟩ (Or.inr hn)
theorem z0t(h:w.ownsRow base e size v n xs):Sl w w.heap.size size v n xs:=by
 rcases h.2 with⟨rfl,rfl⟩|⟨g,cap,cur,rfl,hb,hgg,hnc,hcm,hcs,ht⟩
 ·have:xs=[]:=List.eq_nil_of_length_eq_zero (by have:=h.1;omega)
  subst this
  exact Sl.nil _ _ _
 ·exact⟨_,cap,rfl,h.1,hnc,hcm,fun _=>⟨g,0,rfl,(Array.getElem?_eq_some_iff.1 hgg).1,fun j u hu=>by
   have:=h.cells (g:=g) rfl j u hu
   rw[Nat.zero_add]
   unfold Addr.add at this
   split at this
   ·have e:j=0:=by assumption
    rw[e];exact this
   ·simpa using this⟩⟩
end
structure FrB(S:List Nat)(B:Nat)(a b:World):Prop where
 os:b.os=a.os
 tape:b.tape=a.tape
 output:b.output=a.output
 size:a.heap.size≤b.heap.size
 block:∀k,k < a.heap.size→k < B→k∉S→b.heap[k]? = a.heap[k]?
section
variable {a b c w w':World} {S T:List Nat} {B:Nat}
theorem Fr.toB(h:Fr S a b)(B:Nat):FrB S B a b:=⟨h.os,h.tape,h.output,h.size,fun k hk _ hn=>h.block k hk hn⟩
theorem FrB.trans(h:FrB S B a b)(k:FrB S B b c):FrB S B a c:=
 ⟨k.os.trans h.os,k.tape.trans h.tape,k.output.trans h.output,Nat.le_trans h.size k.size,fun i hi hB hn=>(k.block i (Nat.lt_of_lt_of_le hi h.size) hB hn).trans (h.block i hi hB hn)⟩
theorem FrB.more(h:FrB S B a b)(hs:∀k,k∈S→k∈T∨B≤k):FrB T B a b:=
 ⟨h.os,h.tape,h.output,h.size,fun i hi hB hn=>h.block i hi hB (fun hm=>by
  rcases hs i hm with hT|hT
  ·exact hn hT
  ·omega)⟩
theorem FrB.whole{g t:Nat}{cs:List Value}(h:FrB S B w w')(hw:Whole w g t cs)(hB:g < B)(hn:g∉S):Whole w' g t cs:=(h.block g hw.lt hB hn).trans hw
end
end Go.Proofs.YtamgdmiopinidaaGreatDoor
namespace Go.Proofs.YtamgdmiopinidaaGreatDoor
open Go.Lib
def zj2(c:UInt8):Bool:=decide (48≤c.toNat)&&decide (c.toNat≤57)
def zhj(a:Nat)(l:List UInt8):Nat:=l.foldl (fun a c=>a * 10+(c.toNat - 48)) a
def zpt(l:List UInt8):Nat:=zhj 0 l
theorem zhq(a:Nat)(l:List UInt8)(c:UInt8):zhj a (l++[c])=zhj a l * 10+(c.toNat - 48):=by
 unfold zhj
 rw[List.foldl_append]
 rfl
theorem zi3:∀(l:List UInt8) (a:Nat),a≤zhj a l
 | [],a=>Nat.le_refl _
 | c :: r,a=>by
  have:=zi3 r (a * 10+(c.toNat - 48))
  show a≤zhj (a * 10+(c.toNat - 48)) r
  omega
theorem zoy:∀(l:List UInt8) (a:Nat),(∀c∈l,zj2 c=true)→zhj a l < (a+1) * 10 ^ l.length
 | [],a,_=>by show a < (a+1) * 1;omega
 | c :: r,a,h=>by
  have hc:=h c (.head _)
  unfold zj2 at hc
  simp at hc
  have:=zoy r (a * 10+(c.toNat - 48)) (fun q hq=>h q (.tail _ hq))
  show zhj (a * 10+(c.toNat - 48)) r < (a+1) * 10 ^ (r.length+1)
  have h2:(a * 10+(c.toNat - 48)+1) * 10 ^ r.length≤((a+1) * 10) * 10 ^ r.length:=Nat.mul_le_mul_right _ (by omega)
  rw[Nat.pow_succ,Nat.mul_comm (10 ^ r.length) 10,←Nat.mul_assoc]
  omega
theorem zi0{c:UInt8}(h:zj2 c=true):UInt8.ofNat (48+(c.toNat - 48))=c:=by
 unfold zj2 at h
 simp at h
 rw[show 48+(c.toNat - 48)=c.toNat by omega]
 simp
theorem z7e{k:Nat}(h:k < 10):(UInt8.ofNat (48+k)).toNat=48+k:=by
 rw[UInt8.toNat_ofNat']
 omega
theorem zfd(u:Nat):∀c∈decDigits u,zj2 c=true:=by
 induction u using Nat.strongRecOn with
 | _ u ih=>
  intro c hc
  rw[decDigits] at hc
  split at hc
  ·rename_i h
   rw[List.mem_singleton] at hc
   subst hc
   unfold zj2
   rw[z7e h]
   simp
   omega
  ·rename_i h
   rcases List.mem_append.1 hc with hc|hc
   ·exact ih (u / 10) (by omega) c hc
   ·rw[List.mem_singleton] at hc
    subst hc
    unfold zj2
    rw[z7e (Nat.mod_lt _ (by decide))]
    simp
    omega
theorem zie(u:Nat):zpt (decDigits u)=u:=by
 induction u using Nat.strongRecOn with
 | _ u ih=>
  rw[decDigits]
  split
  ·rename_i h
   show 0 * 10+((UInt8.ofNat (48+u)).toNat - 48)=u
   rw[z7e h]
   omega
  ·rename_i h
   unfold zpt
   rw[zhq]
   have:=ih (u / 10) (by omega)
   unfold zpt at this
   rw[this,z7e (Nat.mod_lt _ (by decide))]
   omega
theorem zk8(u:Nat):decDigits u≠[]:=by
 rw[decDigits]
 split <;> simp
theorem zt0(u:Nat)(hu:0 < u):∃c r,decDigits u=c :: r∧c.toNat≠48:=by
 induction u using Nat.strongRecOn with
 | _ u ih=>
  rw[decDigits]
  split
  ·rename_i h
   exact⟨_,[],rfl,by rw[z7e h];omega⟩
  ·rename_i h
   obtain⟨c,r,e,hc⟩:=ih (u / 10) (by omega) (by omega)
   exact⟨c,r++[UInt8.ofNat (48+u % 10)],by rw[e];rfl,hc⟩
theorem zkb:decDigits 0=[48]:=by rw[decDigits];rfl
theorem zqa:∀(n:Nat) (l:List UInt8),l.length=n→l≠[]→(∀c∈l,zj2 c=true)→(∀c r,l=c :: r→c.toNat=48→r=[])→decDigits (zpt l)=l
 | 0,l,hn,hne,_,_=>absurd (List.eq_nil_of_length_eq_zero hn) hne
 | n+1,l,hn,hne,hd,hz=>by
  obtain⟨d,c,rfl⟩:∃d c,l=d++[c]:=⟨l.dropLast,l.getLast hne,(List.dropLast_concat_getLast hne).symm⟩
  have hc:=hd c (by simp)
  have hcd:=hc
  unfold zj2 at hcd
  simp at hcd
  unfold zpt
  rw[zhq]
  by_cases h0:d=[]
  ·subst h0
   show decDigits (0 * 10+(c.toNat - 48))=[c]
   rw[decDigits,dif_pos (by omega),Nat.zero_mul,Nat.zero_add,zi0 hc]
  ·have hdd:∀q∈d,zj2 q=true:=fun q hq=>hd q (List.mem_append.2 (.inl hq))
   obtain⟨q,r,rfl⟩:=List.exists_cons_of_ne_nil h0
   have hq48:q.toNat≠48:=fun e=>by
    have:=hz q (r++[c]) rfl e
    simp at this
   have hqd:=hdd q (.head _)
   unfold zj2 at hqd
   simp at hqd
   have hpos:1≤zhj 0 (q :: r):=by
    have:=zi3 r (0 * 10+(q.toNat - 48))
    show 1≤zhj (0 * 10+(q.toNat - 48)) r
    omega
   have ih:=zqa n (q :: r) (by simp at hn ⊢;omega) (by simp) hdd (fun c' r' e h48=>by
    injection e with e1 e2
    subst e1
    exact absurd h48 hq48)
   unfold zpt at ih
   rw[decDigits,dif_neg (by omega),show(zhj 0 (q :: r) * 10+(c.toNat - 48)) / 10=zhj 0 (q :: r) by omega,show(zhj 0 (q :: r) * 10+(c.toNat - 48)) % 10=c.toNat - 48 by omega,ih,zi0 hc]
def zvy(neg:Bool)(d:List UInt8):Option Nat:=
 if d.length=0∨9 < d.length∨(d.head? = some 48∧(1 < d.length∨neg=true)) then none else if d.all zj2=true then some (zpt d) else none
def z3v(l:List UInt8):Option Int:=
 if l.head? = some 45 then (zvy true (l.drop 1)).map (fun u:Nat=>-(u:Int)) else (zvy false l).map (fun u:Nat=>(u:Int))
theorem zxv{c:UInt8}:c.toNat=48↔c=48:=by
 constructor
 ·intro h;apply UInt8.toNat_inj.1;exact h
 ·rintro rfl;rfl
theorem zkd{neg:Bool}{d:List UInt8}{u:Nat}(h:zvy neg d=some u):d=decDigits u∧u≤999999999∧(neg=true→0 < u):=by
 unfold zvy at h
 split at h
 ·cases h
 ·rename_i h1
  split at h
  ·rename_i h2
   injection h with h
   subst h
   rw[List.all_eq_true] at h2
   have hne:d≠[]:=fun e=>h1 (.inl (by rw[e];rfl))
   have hlen:d.length≤9:=by
    rcases Nat.lt_or_ge 9 d.length with h|h
    ·exact absurd (.inr (.inl h)) h1
    ·exact h
   have hv:=zqa d.length d rfl hne h2 (fun c r e h48=>by
    rcases Nat.lt_or_ge 1 d.length with hl|hl
    ·exact absurd (.inr (.inr ⟨by rw[e,zxv.1 h48];rfl,.inl hl⟩)) h1
    ·rw[e,List.length_cons] at hl
     exact List.eq_nil_of_length_eq_zero (by omega))
   have hlt:=zoy d 0 h2
   have hp:(10:Nat) ^ d.length≤10 ^ 9:=Nat.pow_le_pow_right (by decide) hlen
   refine⟨hv.symm,by unfold zpt;omega,fun hneg=>?_⟩
   rcases Nat.eq_zero_or_pos (zpt d) with h0|h0
   ·rw[h0,zkb] at hv
    exact absurd (.inr (.inr ⟨by rw[←hv];rfl,.inr hneg⟩)) h1
   ·exact h0
  ·cases h
theorem zjm{u:Nat}(h:u≤999999999):0 < (decDigits u).length∧(decDigits u).length≤9:=by
 refine⟨List.length_pos_iff.2 (zk8 u),?_⟩
 rw[decDigits_length]
 rcases Nat.lt_or_ge (nDigits u) 10 with h'|h'
 ·omega
 ·exfalso
  have:∀(k u:Nat),k+1≤nDigits u→0 < u→10 ^ k≤u:=by
   intro k
   induction k with
   | zero=>intro u _ hu;rw[Nat.pow_zero];exact hu
   | succ k ih=>
    intro u hk hu
    by_cases h10:u < 10
    ·rw[nDigits_small h10] at hk;omega
    ·rw[nDigits_big h10] at hk
     have:=ih (u / 10) (by omega) (by omega)
     rw[Nat.pow_succ]
     omega
  have h2:=this 9 u (by omega) (by
   rcases Nat.eq_zero_or_pos u with h0|h0
   ·rw[h0,nDigits_small (by decide)] at h';omega
   ·exact h0)
  omega
theorem zo6{neg:Bool}{u:Nat}(h:u≤999999999)(hn:neg=true→0 < u):zvy neg (decDigits u)=some u:=by
 have hl:=zjm h
 unfold zvy
 rw[if_neg,if_pos (List.all_eq_true.2 (zfd u)),zie]
 rintro(h1|h1|⟨h1,h2⟩)
 ·omega
 ·omega
 ·rcases Nat.eq_zero_or_pos u with h0|h0
  ·rcases h2 with h2|h2
   ·rw[h0,zkb] at h2;simp at h2
   ·have:=hn h2;omega
  ·obtain⟨c,r,e,hc⟩:=zt0 u h0
   rw[e] at h1
   simp at h1
   exact hc (zxv.2 h1)
theorem zt8(u:Nat):(decDigits u).head? ≠ some 45:=by
 intro h
 obtain⟨c,r,e⟩:=List.exists_cons_of_ne_nil (zk8 u)
 rw[e] at h
 simp at h
 have:=zfd u c (by rw[e];exact .head _)
 rw[h] at this
 exact absurd this (by decide)
theorem z6t{l:List UInt8}{v:Int}:z3v l=some v↔z0m v=true∧l=itoa v:=by
 unfold z3v
 constructor
 ·intro h
  split at h
  ·rename_i h45
   obtain⟨u,hu,rfl⟩:=Option.map_eq_some_iff.1 h
   obtain⟨e,hle,hpos⟩:=zkd hu
   have:=hpos rfl
   refine⟨by unfold z0m;simp;omega,?_⟩
   obtain⟨c,r,rfl⟩:∃c r,l=c :: r:=by
    cases l with
    | nil=>simp at h45
    | cons c r=>exact⟨c,r,rfl⟩
   simp at h45 e
   subst h45
   unfold itoa
   rw[if_pos (by omega),e,show(-(u:Int)).natAbs=u by omega]
  ·obtain⟨u,hu,rfl⟩:=Option.map_eq_some_iff.1 h
   obtain⟨e,hle,hpos⟩:=zkd hu
   refine⟨by unfold z0m;simp;omega,?_⟩
   unfold itoa
   rw[if_neg (by omega),e,Int.toNat_natCast]
 ·rintro⟨hi,rfl⟩
  unfold z0m at hi
  simp at hi
  unfold itoa
  by_cases hv:v < 0
  ·rw[if_pos hv,if_pos (show(45 :: decDigits v.natAbs).head? = some (45:UInt8) from rfl)]
   show(zvy true (decDigits v.natAbs)).map _=some v
   rw[zo6 (by omega) (fun _=>by omega)]
   simp
   omega
  ·rw[if_neg hv,if_neg (zt8 _),zo6 (by omega) (fun h=>by cases h)]
   simp
   omega
theorem zkh:∀(l:List UInt8) (a:Nat),(∀c∈l,zj2 c=true)→zhj a l≤1000000000000000000→parseUint10 a l=.ok (zhj a l)
 | [],a,_,_=>rfl
 | c :: r,a,h,hv=>by
  have hc:=h c (.head _)
  unfold zj2 at hc
  simp at hc
  have h1:zhj a (c :: r)=zhj (a * 10+(c.toNat - 48)) r:=rfl
  have h2:=zi3 r (a * 10+(c.toNat - 48))
  rw[h1] at hv ⊢
  rw[parseUint10,if_pos hc,if_neg (by omega),if_neg (by omega)]
  exact zkh r _ (fun q hq=>h q (.tail _ hq)) hv
theorem zhr{u:Nat}(h:u≤999999999):parseMag (decDigits u)=.ok u:=by
 unfold parseMag
 rw[if_neg (zk8 u)]
 have:=zkh (decDigits u) 0 (zfd u) (by have:=zie u;unfold zpt at this;omega)
 have h2:=zie u
 unfold zpt at h2
 rw[h2] at this
 exact this
theorem zgp{v:Int}(h:z0m v=true):atoiAll (itoa v)=.ok v:=by
 unfold z0m at h
 simp at h
 unfold itoa
 by_cases hv:v < 0
 ·rw[if_pos hv]
  unfold atoiAll
  simp only[show(45:UInt8).toNat=45 from rfl,true_or,or_true,if_true]
  rw[zhr (by omega)]
  simp only[not_true,false_and,if_false,true_and]
  rw[if_neg (by omega)]
  congr 1
  omega
 ·rw[if_neg hv]
  obtain⟨c,r,e⟩:=List.exists_cons_of_ne_nil (zk8 v.toNat)
  have hd:=zfd v.toNat c (by rw[e];exact .head _)
  unfold zj2 at hd
  simp at hd
  have hp:=zhr (u:=v.toNat) (by omega)
  rw[e] at hp ⊢
  unfold atoiAll
  simp only
  rw[if_neg (by omega),hp]
  simp
  rw[if_neg (by omega),if_neg (by omega),if_neg (by omega)]
  congr 1
  omega
theorem zn8{l:List UInt8}{v:Int}(h:atoiAll l=.ok v):z3v l=if itoa v=l∧z0m v=true then some v else none:=by
 by_cases hc:itoa v=l∧z0m v=true
 ·rw[if_pos hc]
  exact z6t.2 ⟨hc.2,hc.1.symm⟩
 ·rw[if_neg hc]
  cases hi:z3v l with
  | none=>rfl
  | some u=>
   obtain⟨h1,h2⟩:=z6t.1 hi
   have:=zgp h1
   rw[←h2,h] at this
   injection this with this
   subst this
   exact absurd ⟨h2.symm,h1⟩ hc
theorem zkr{l:List UInt8}(h:∀v,atoiAll l≠.ok v):z3v l=none:=by
 cases hi:z3v l with
 | none=>rfl
 | some u=>
  obtain⟨h1,h2⟩:=z6t.1 hi
  exact absurd (by rw[h2];exact zgp h1) (h u)
theorem zka{v:Int}(h:z0m v=true):0 < (itoa v).length∧(itoa v).length≤10:=by
 unfold z0m at h
 simp at h
 unfold itoa
 by_cases hv:v < 0
 ·rw[if_pos hv]
  have:=zjm (u:=v.natAbs) (by omega)
  rw[List.length_cons]
  omega
 ·rw[if_neg hv]
  have:=zjm (u:=v.toNat) (by omega)
  omega
end Go.Proofs.YtamgdmiopinidaaGreatDoor
namespace Go.Proofs.YtamgdmiopinidaaGreatDoor
def toB(l:List UInt8):ByteArray:=⟨l.toArray⟩
theorem zrb(l:List UInt8):(toB l).data.toList=l:=by simp[toB]
def zxm(l:List ByteArray):Prop:=0 < l.length∧l.length≤12∧∀s∈l,s.size≤60
structure Rp1 where
 kind:Int
 text:ByteArray
 n:Int
 sub:Nat
structure Rep where
 kind:Int
 text:ByteArray
 n:Int
 list:List Rp1
def Rep.one(r:Rep):Rp1:=⟨r.kind,r.text,r.n,r.list.length⟩
def zeroR:Rep:=⟨0,⟨#[]⟩,0,[]⟩
def wordB(c:Nat):Bool:=(decide (97≤c)&&decide (c≤122))||(decide (65≤c)&&decide (c≤90))||(decide (48≤c)&&decide (c≤57))||decide (c=32)
def zv2(s:ByteArray):Bool:=s.data.toList.all fun c=>wordB c.toNat
def z3l(x:Rp1):Int:=
 if ¬(1≤x.kind∧x.kind≤5) then 7
 else if (x.kind≠1∧x.kind≠4∧x.text.size≠0)∨(x.kind≠2∧x.kind≠3∧x.n≠0)∨0 < x.sub then 1
 else if x.kind=1 then (if 20 < x.text.size then 2 else if x.text.size=0 then 1 else if zv2 x.text=true then 0 else 1)
 else if x.kind=2 then (if 1≤x.n∧x.n≤8 then 0 else 3)
 else if x.kind=3 then (if z0m x.n=true then 0 else 3)
 else if x.kind=4 then (if 60 < x.text.size then 2 else 0)
 else 0
def z8a:List Rp1→Int
 | []=>0
 | x :: l=>if z3l x≠0 then z3l x else z8a l
def z1n(r:Rep):Int:=
 if r.kind≠6 then z3l r.one
 else if r.text.size≠0∨r.n≠0 then 1
 else if 300 < r.list.length then 2
 else z8a r.list
theorem zc3:∀ {l:List Rp1},z8a l=0→∀x∈l,z3l x=0
 | [],_,x,h=>by cases h
 | y :: l,hc,x,h=>by
  unfold z8a at hc
  by_cases hy:z3l y=0
  ·rw[if_neg (by simpa using hy)] at hc
   rcases List.mem_cons.1 h with rfl|h
   ·exact hy
   ·exact zc3 hc x h
  ·rw[if_pos hy] at hc;exact absurd hc hy
theorem zci:∀ {l:List Rp1},(∀x∈l,z3l x=0)→z8a l=0
 | [],_=>rfl
 | y :: l,h=>by
  unfold z8a
  rw[if_neg (by simpa using h y (by simp))]
  exact zci fun x hx=>h x (by simp[hx])
structure znr(x:Rp1):Prop where
 kind:1≤x.kind∧x.kind≤5
 sub:x.sub=0
 text:x.kind≠1→x.kind≠4→x.text=⟨#[]⟩
 num:x.kind≠2→x.kind≠3→x.n=0
 word:x.kind=1→x.text.size≤20∧x.text.size≠0∧zv2 x.text=true
 err:x.kind=2→1≤x.n∧x.n≤8
 int:x.kind=3→z0m x.n=true
 bytes:x.kind=4→x.text.size≤60
theorem nilB{t:ByteArray}(h:t.size=0):t=⟨#[]⟩:=by
 apply ByteArray.ext
 exact Array.eq_empty_of_size_eq_zero h
theorem zgi{x:Rp1}(h:z3l x=0):znr x:=by
 unfold z3l at h
 by_cases hk:1≤x.kind∧x.kind≤5
 ·rw[if_neg (fun hn=>hn hk)] at h
  by_cases hb:(x.kind≠1∧x.kind≠4∧x.text.size≠0)∨(x.kind≠2∧x.kind≠3∧x.n≠0)∨0 < x.sub
  ·rw[if_pos hb] at h;exact absurd h (by decide)
  ·rw[if_neg hb] at h
   have hs:x.sub=0:=by
    rcases Nat.eq_zero_or_pos x.sub with h0|h0
    ·exact h0
    ·exact absurd (.inr (.inr h0)) hb
   refine⟨hk,hs,fun h1 h4=>?_,fun h2 h3=>?_,fun h1=>?_,fun h2=>?_,fun h3=>?_,fun h4=>?_⟩
   ·apply nilB
    by_cases hz:x.text.size=0
    ·exact hz
    ·exact absurd (.inl ⟨h1,h4,hz⟩) hb
   ·by_cases hz:x.n=0
    ·exact hz
    ·exact absurd (.inr (.inl ⟨h2,h3,hz⟩)) hb
   ·rw[if_pos h1] at h
    by_cases h20:20 < x.text.size
    ·rw[if_pos h20] at h;exact absurd h (by decide)
    ·rw[if_neg h20] at h
     by_cases h0:x.text.size=0
     ·rw[if_pos h0] at h;exact absurd h (by decide)
     ·rw[if_neg h0] at h
      by_cases hw:zv2 x.text=true
      ·exact⟨by omega,h0,hw⟩
      ·rw[if_neg hw] at h;exact absurd h (by decide)
   ·rw[if_neg (by omega),if_pos h2] at h
    by_cases hr:1≤x.n∧x.n≤8
    ·exact hr
    ·rw[if_neg hr] at h;exact absurd h (by decide)
   ·rw[if_neg (by omega),if_neg (by omega),if_pos h3] at h
    by_cases hr:z0m x.n=true
    ·exact hr
    ·rw[if_neg hr] at h;exact absurd h (by decide)
   ·rw[if_neg (by omega),if_neg (by omega),if_neg (by omega),if_pos h4] at h
    by_cases hr:60 < x.text.size
    ·rw[if_pos hr] at h;exact absurd h (by decide)
    ·omega
 ·rw[if_pos hk] at h;exact absurd h (by decide)
theorem zo5{r:Rep}(h:z1n r=0):(r.kind≠6∧znr r.one∧r.list=[])∨(r.kind=6∧r.text=⟨#[]⟩∧r.n=0∧r.list.length≤300∧∀x∈r.list,znr x):=by
 unfold z1n at h
 by_cases hk:r.kind=6
 ·rw[if_neg (fun hn=>hn hk)] at h
  by_cases hb:r.text.size≠0∨r.n≠0
  ·rw[if_pos hb] at h;exact absurd h (by decide)
  ·rw[if_neg hb] at h
   by_cases hl:300 < r.list.length
   ·rw[if_pos hl] at h;exact absurd h (by decide)
   ·rw[if_neg hl] at h
    refine .inr ⟨hk,nilB ?_,?_,by omega,fun x hx=>zgi (zc3 h x hx)⟩
    ·by_cases hz:r.text.size=0
     ·exact hz
     ·exact absurd (.inl hz) hb
    ·by_cases hz:r.n=0
     ·exact hz
     ·exact absurd (.inr hz) hb
 ·rw[if_pos hk] at h
  have:=zgi h
  exact .inl ⟨hk,this,List.eq_nil_of_length_eq_zero this.sub⟩
end Go.Proofs.YtamgdmiopinidaaGreatDoor
