/- Contracts; no condition but each theorem's own. -/
import Derived.Below
import Derived.BigQuiet
import Derived.Calls
import Derived.Deep.AppendLies
import Derived.Deep.Draws
import Derived.Deep.OwnRows
import Derived.Deep.QuietTactic
import Derived.Laws.OwnMore
import Derived.Lib.Bytealg
import Derived.Lib.Hide
import Derived.LoopTactic
import Derived.Maps.AppendAt
import Derived.Outline
import Derived.OwnWalk
import Derived.Shelf.LaysC
import Derived.Shelf.LaysM
import Derived.Shelf.Slices.CompactS
import Derived.Shelf.Slices.In.SortNone
import Derived.Shelf.Small.Strs
import Derived.Shelf.Sort.Plain
import Derived.Shelf.Strconv.Atoi
import Derived.Shelf.Strconv.AtoiAll
import Derived.Shelf.Strconv.AtoiErrFast
import Derived.Shelf.Strconv.AtoiFail
import Derived.Shelf.Strconv.AtoiInnerAll
import Derived.Shelf.Strconv.AtoiLong
import Derived.Shelf.Strconv.Clone
import Derived.Shelf.Strconv.ErrVarAll
import Derived.Shelf.Strconv.Itoa0
import Derived.Shelf.Strconv.Itoa1
import Derived.Shelf.Strconv.Itoa2
import Derived.Shelf.Strconv.Itoa3
import Derived.Shelf.Strconv.Lower
import Derived.Shelf.Strconv.ParseInt10
import Derived.Shelf.Strconv.ParseIntEmpty
import Derived.Shelf.Strconv.ParseUint10
import Derived.Shelf.Strconv.ParseUint10Any
import Derived.Shelf.Strconv.ParseUint10Empty
import Derived.Shelf.Strconv.RangeError
import Derived.Shelf.Strconv.SyntaxError
import Derived.Shelf.Strconv.ToError
import Derived.Shelf.Strconv.ToErrorRange
import Derived.Shelf.Strings.Search1
import Derived.Test.YtnmoajaelmimnaaGreatDoorProg
import Derived.WalkKit
import Derived.WalkLawsBesides
import Derived.WalkSpells
set_option linter.unusedVariables false
set_option linter.unusedSimpArgs false
set_option maxHeartbeats 8000000
set_option maxRecDepth 100000
namespace Go.Proofs.YtnmoajaelmimnaaGreatDoor
abbrev Xa:=@List.getElem?_eq_getElem
abbrev Xb:=@Nat.le_refl
abbrev Xc:=@if_neg
abbrev Xd:=@Nat.le_trans
abbrev Xe:=@List.getElem?_eq_some_iff
abbrev Xf:=@if_pos
abbrev Xg:=@bodyPost_ret
abbrev Xh:=@List.setIfInBounds_toArray
abbrev Xi:=@decide_eq_true
abbrev Xj:=@List.mem_of_getElem?
abbrev Xk:=@List.length_append
abbrev Xl:=@decide_eq_false
abbrev Xm:=@List.set_cons_succ
abbrev Xn:=@List.set_cons_zero
abbrev Xo:=@List.eq_nil_of_length_eq_zero
abbrev Xp:=@List.length_take
abbrev Xq:=@List.getElem?_append_right
abbrev Xr:=@List.length_drop
abbrev Xs:=@List.getD_eq_getElem?_getD
abbrev Xt:=@Nat.zero_le
abbrev Xu:=@List.getElem?_append_left
abbrev Xv:=@List.length_filter_le
abbrev Xw:=@List.take_of_length_le
abbrev Xx:=@List.length_map
abbrev Xy:=@List.length_cons
abbrev Xz:=@List.take_add_one
abbrev Ya:=@Nat.mul_comm
abbrev Yb:=@Nat.add_assoc
abbrev Yc:=@Nat.lt_or_ge
abbrev Yd:=@List.getElem?_of_mem
abbrev Ye:=@Nat.add_zero
abbrev Yf:=@Bool.and_eq_true
abbrev Yg:=@List.getElem?_drop
abbrev Yh:=@List.mem_cons
abbrev Yi:=@List.append_assoc
abbrev Yj:=@List.mem_filter
abbrev Yk:=@Nat.mul_le_mul_right
abbrev Yl:=@of_decide_eq_true
abbrev Ym:=@List.take_length
abbrev Yn:=@Option.bind_some
abbrev Yo:=@Option.isSome_iff_exists
abbrev Yp:=@List.mem_of_mem_drop
abbrev Yq:=@Nat.eq_zero_or_pos
abbrev Yr:=@Option.map_eq_some_iff
abbrev Ys:=@List.mem_append
abbrev Yt:=@List.mem_map
abbrev Yu:=@List.drop_eq_getElem_cons
abbrev Yv:=@List.map_cons
abbrev Yw:=@Nat.zero_add
abbrev Yx:=@Nat.lt_of_lt_of_le
abbrev Yy:=@List.getElem?_set
abbrev Yz:=@List.take_append_of_le_length
abbrev Ua:=@List.flatten_cons
abbrev Ub:=@List.append_nil
abbrev Uc:=@List.getElem?_map
abbrev Ud:=@List.mem_of_mem_take
abbrev Ue:=@List.any_eq_false
abbrev Uf:=@List.getElem?_cons_succ
abbrev Ug:=@List.length_set
abbrev Uh:=@Nat.le_succ
abbrev Ui:=@List.drop_of_length_le
abbrev Uj:=@List.getElem?_eq_none
abbrev Uk:=@List.take_append_drop
abbrev Ul:=@List.flatMap_cons
abbrev Um:=@List.getElem?_set_ne
abbrev Un:=@List.getElem?_take
abbrev Uo:=@Option.toList_some
abbrev Up:=@Nat.min_eq_left
abbrev Uq:=@List.getElem?_cons_zero
abbrev Ur:=@Int.toNat_natCast
abbrev Us:=@List.mem_or_eq_of_mem_set
abbrev Ut:=@List.getElem?_set_self
abbrev Uu:=@Option.bind_eq_some_iff
abbrev Uv:=@Array.getElem?_eq_some_iff
abbrev Uw:=@List.mem_singleton
abbrev Ux:=@Nat.sub_self
abbrev Uy:=@List.filter_eq_self
abbrev Uz:=@Bool.false_and
abbrev Va:=@Bool.eq_iff_iff
abbrev Vb:=@List.filter_append
abbrev Vc:=@Bool.or_eq_false_iff
abbrev Vd:=@List.findIdx?_eq_some_iff_getElem
abbrev Ve:=@List.getElem?_eraseIdx
abbrev Vf:=@List.pairwise_map
abbrev Vg:=@Nat.not_lt_zero
abbrev Vh:=@List.findIdx?_eq_none_iff
abbrev Vi:=@List.filter_cons
abbrev Vj:=@List.getElem_mem
abbrev Vk:=@Bool.true_and
abbrev Vl:=@Nat.succ_mul
abbrev Vm:=@List.take_take
abbrev Vn:=@Nat.min_def
abbrev Vo:=@Nat.mul_one
abbrev Vp:=@List.length_eq_zero_iff
abbrev Vq:=@List.nil_append
abbrev Vr:=@List.map_nil
abbrev Vs:=@List.any_eq_true
abbrev Vt:=@List.pairwise_iff_getElem
abbrev Vu:=@List.map_append
abbrev Vv:=@List.length_eraseIdx
abbrev Vw:=@List.mem_cons_of_mem
abbrev Vx:=@List.getElem?_take_of_lt
abbrev Vy:=@List.getElem_of_mem
abbrev Vz:=@List.length_take_le
abbrev Ja:=@Array.eq_empty_of_size_eq_zero
abbrev Jb:=@List.all_eq_true
abbrev Jc:=@List.drop_length
abbrev Jd:=@List.take_zero
abbrev Je:=@Nat.lt_succ_self
abbrev Jf:=@List.find?_eq_none
abbrev Jg:=@Array.getElem?_modify
abbrev Jh:=@Int.lt_trichotomy
abbrev Ji:=@List.ext_getElem?
abbrev Jj:=@List.exists_cons_of_ne_nil
abbrev Jk:=@List.extract_eq_take_drop
abbrev Jl:=@List.mem_of_find?_eq_some
abbrev Jm:=@List.takeWhile_cons
abbrev Jn:=@List.take_succ_cons
abbrev Jo:=@List.mem_of_mem_eraseIdx
abbrev Jp:=@Bool.or_eq_true
abbrev Jq:=@Nat.add_sub_cancel
abbrev Jr:=@Int.eq_ofNat_of_zero_le
abbrev Js:=@List.append_cancel_left
abbrev Jt:=@List.length_eraseIdx_le
abbrev Ju:=@List.length_range
abbrev Jv:=@Nat.zero_mul
abbrev Jw:=@List.length_singleton
abbrev Jx:=@List.set_append_right
abbrev Jy:=@List.flatMap_nil
abbrev Jz:=@List.map_toArray
abbrev Ka:=@List.mem_flatten
abbrev Kb:=@Bool.false_or
abbrev Kc:=@Array.toList_extract
abbrev Kd:=@List.find?_some
abbrev Ke:=@Option.map_some
abbrev Kf:=@List.filter_sublist
abbrev Kg:=@List.map_congr_left
abbrev Kh:=@List.mem_map_of_mem
abbrev Ki:=@List.map_map
abbrev Kj:=@Nat.le_of_lt
abbrev Kk:=@List.mem_range
abbrev Kl:=@List.pairwise_cons
abbrev Km:=@List.map_drop
abbrev Kn:=@List.map_take
abbrev YY:=ByteArray
abbrev YX:=List YY
abbrev YV:=Option Addr
structure Hid(p:Prop):Prop where
 o:p
theorem hid{p:Prop}(h:p):Hid p:=⟨h⟩
end Go.Proofs.YtnmoajaelmimnaaGreatDoor
namespace Go.Proofs.YtnmoajaelmimnaaGreatDoor
open Go.Proofs.Tryz (prog)
section
open Go.RowKit
def Whole(w:World)(g:Nat)(t:TypeId)(cs:List Value):Prop:=w.heap[g]? = some (.cells cs.toArray t (0,0))
structure Fr(S:List Nat)(a b:World):Prop where
 os:b.os=a.os
 tape:b.tape=a.tape
 output:b.output=a.output
 size:a.heap.size≤b.heap.size
 block:∀k,k < a.heap.size→k∉S→b.heap[k]? = a.heap[k]?
section
variable {a b c w w':World} {S T:List Nat} {g:Nat} {t:TypeId} {cs:List Value}
theorem Fr.refl(S:List Nat)(w):Fr S w w:=⟨rfl,rfl,rfl,Xb _,fun _ _ _=>rfl⟩
theorem Fr.trans(h:Fr S a b)(k:Fr S b c):Fr S a c:=
 ⟨k.os.trans h.os,k.tape.trans h.tape,k.output.trans h.output,Xd h.size k.size,fun i hi hn=>(k.block i (Yx hi h.size) hn).trans (h.block i hi hn)⟩
theorem Fr.more(h:Fr S a b)(hs:∀k,k∈S→k∈T∨a.heap.size≤k):Fr T a b:=
 ⟨h.os,h.tape,h.output,h.size,fun i hi hn=>h.block i hi (fun hm=>by
  rcases hs i hm with hT|hT
  ·exact hn hT
  ·omega)⟩
theorem Fr.up(h:Fr [] a b):Fr T a b:=h.more (fun k hk=>absurd hk (by simp))
theorem Fr.step(h:Fr S a b)(k:Fr T b c)(hT:∀x,x∈T→x∈S∨a.heap.size≤x):Fr S a c:=
 ⟨k.os.trans h.os,k.tape.trans h.tape,k.output.trans h.output,Xd h.size k.size,fun i hi hn=>
  (k.block i (Yx hi h.size) (fun hm=>by
    rcases hT i hm with h1|h1
    ·exact hn h1
    ·omega)).trans (h.block i hi hn)⟩
theorem Fr.drew(h:Fr S a b):Fr S a b.drew:=⟨h.os,h.tape,h.output,h.size,h.block⟩
theorem Fr.drewN(h:Fr S a b)(n:Nat):Fr S a (b.drewN n):=⟨h.os,h.tape,h.output,h.size,h.block⟩
theorem Fr.alloc(h:Fr S a b)(o:Obj):Fr S a (b.alloc o):=
 ⟨h.os,h.tape,h.output,Xd h.size (by simp),fun i hi hn=>(Below.heap_alloc b o i (Yx hi h.size)).trans (h.block i hi hn)⟩
theorem Fr.setCell(h:Fr S a b){p:Addr}(hp:p.block∈S∨a.heap.size≤p.block)(u):Fr S a (b.setCell p u):=
 ⟨h.os,h.tape,h.output,by simpa[World.setCell] using h.size,fun i hi hn=>(Below.heap_setCell b p u i (by
  rintro rfl;rcases hp with hp|hp
  ·exact hn hp
  ·omega)).trans (h.block i hi hn)⟩
theorem Fr.grown(h:Fr S a b){row:Option Nat}(hg:b.grownBy c row)(hr:∀k,row=some k→k∈S∨a.heap.size≤k):Fr S a c:=
 ⟨hg.os.trans h.os,hg.tape.trans h.tape,hg.output.trans h.output,Xd h.size hg.size,fun i hi hn=>(hg.block i (Yx hi h.size) (fun e=>by
  rcases hr i e.symm with h1|h1
  ·exact hn h1
  ·omega)).trans (h.block i hi hn)⟩
theorem Fr.of_below(h:Below a.heap.size a b):Fr S a b:=⟨h.os,h.tape,h.output,h.size,fun i hi _=>h.block i hi⟩
theorem Fr.below(h:Fr [] a b):Below a.heap.size a b:=⟨h.os,h.tape,h.output,h.size,fun i hi=>h.block i hi (by simp)⟩
theorem Fr.belowOf{B:Nat}(h:Fr S a b)(hB:B≤a.heap.size)(hS:∀k,k∈S→B≤k):Below B a b:=
 ⟨h.os,h.tape,h.output,h.size,fun i hi=>h.block i (by omega) (fun hm=>by have:=hS i hm;omega)⟩
theorem Fr.cell?(h:Fr S a b){p:Addr}(hp:p.block < a.heap.size)(hn:p.block∉S):b.cell? p=a.cell? p:=World.cell?_of_block (h.block _ hp hn)
theorem Fr.cell(h:Fr S a b){p:Addr}{v:Value}(hc:a.cell? p=some v)(hn:p.block∉S):b.cell? p=some v:=
 (h.cell? (World.block_lt_of_cell? a p hc) hn).trans hc
theorem Whole.lt(h:Whole w g t cs):g < w.heap.size:=by
 rcases Yc g w.heap.size with hlt|hge
 ·exact hlt
 ·unfold Whole at h;rw[Array.getElem?_eq_none hge] at h;cases h
theorem Whole.cell(h:Whole w g t cs)(i:Nat):w.cell? ⟨g,i,none⟩=cs[i]? := by
 rw[cell_of_row w g i cs.toArray t (0,0) h];simp
theorem Whole.frozen(h:Whole w g t cs)(i:Nat):w.frozen? ⟨g,i,none⟩=false:=by
 unfold Whole at h;simp[World.frozen?,h]
theorem Whole.new(w:World)(t:TypeId)(cs:List Value):Whole (w.alloc (.cells cs.toArray t)) w.heap.size t cs:=heap_alloc_new w _
theorem Whole.drew(h:Whole w g t cs):Whole w.drew g t cs:=h
theorem Whole.drewN(h:Whole w g t cs)(n:Nat):Whole (w.drewN n) g t cs:=h
theorem Whole.alloc(h:Whole w g t cs)(o:Obj):Whole (w.alloc o) g t cs:=(Below.heap_alloc w o g h.lt).trans h
theorem Whole.set_(h:Whole w g t cs)(i:Nat)(u):Whole (w.setCell ⟨g,i,none⟩ u) g t (cs.set i u):=by
 unfold Whole at h ⊢;simp[World.setCell,Jg,h,Xh]
theorem Whole.far(h:Whole w g t cs){p:Addr}(hp:g≠p.block)(u):Whole (w.setCell p u) g t cs:=(Below.heap_setCell w p u g hp).trans h
theorem Whole.fr(h:Whole w g t cs)(hf:Fr S w w')(hn:g∉S):Whole w' g t cs:=(hf.block g h.lt hn).trans h
theorem Whole.f0{S:List Nat}{w w':World}{g t:Nat}{cs:List Value}(h:Whole w g t cs)(hf:Fr S w w')(hn:g∉S:=by simp):Whole w' g t cs:=h.fr hf hn
theorem Whole.grown{row:Option Nat}(h:Whole w g t cs)(hb:w.grownBy w' row)(hg:some g≠row):Whole w' g t cs:=(hb.block g h.lt hg).trans h
theorem Whole.ne_{g':Nat}{t':TypeId}{cs':List Value}(h:Whole w g t cs)(h':Whole w g' t' cs')(hne:t≠t'):g≠g':=by
 rintro rfl;unfold Whole at h h';rw[h] at h';injection h' with h'
 injection h' with _ ht
 exact hne ht
end
def Sl(w:World)(B size:Nat)(v:Value)(n:Nat)(xs:List Value):Prop:=
 ∃A c,v=.slice A n c∧xs.length=n * size∧n≤c∧c≤maxLen ∧
  (0 < n→∃b off,A=some ⟨b,off,none⟩∧b < B∧∀j u,xs[j]? = some u→w.cell? ⟨b,off+j,none⟩=some u)
section
variable {w w':World} {B B' size n:Nat} {v:Value} {xs:List Value} {S:List Nat}
theorem Sl.keep(h:Sl w B size v n xs)(hk:∀p:Addr,p.block < B→w'.cell? p=w.cell? p):Sl w' B size v n xs:=by
 obtain⟨A,c,e,g,l,f,hr⟩:=h;refine⟨A,c,e,g,l,f,fun r=>?_⟩;obtain⟨b,off,m,d,a⟩:=hr r;exact⟨b,off,m,d,fun j u k=>(hk ⟨b,off+j,none⟩ d).trans (a j u k)⟩
theorem Sl.more(h:Sl w B size v n xs)(hB:B≤B'):Sl w B' size v n xs:=by
 obtain⟨A,c,e,f,g,d,hr⟩:=h;refine⟨A,c,e,f,g,d,fun k=>?_⟩;obtain⟨b,off,j,l,a⟩:=hr k;exact⟨b,off,j,by omega,a⟩
theorem Sl.below(h:Sl w B size v n xs)(hb:Below B w w'):Sl w' B size v n xs:=h.keep fun _ hp=>hb.cell hp
theorem Sl.fr(h:Sl w B size v n xs)(hf:Fr S w w')(hB:B≤w.heap.size)(hS:∀k,k∈S→B≤k):Sl w' B size v n xs:=
 h.below (hf.belowOf hB hS)
theorem Sl.nil(w)(B size:Nat):Sl w B size (.slice none 0 0) 0 []:=⟨none,0,rfl,by simp,Xb _,by simp[maxLen],fun h=>absurd h (by omega)⟩
end
theorem Fr.drewN_of(w)(n:Nat)(S:List Nat):Fr S w (w.drewN n):=(Fr.refl S w).drewN n
def z04(p:YY)(i:Nat):Nat:=(p.data.toList.getD i 0).toNat
theorem z1g(p:YY)(i:Nat)(h:i < p.size):(p[i]'h).toNat=z04 p i:=by
 have a:i < p.data.toList.length:=by simpa using h
 have:p.data.toList.getD i 0=p[i]:=by
  rw[Xs,Xa a];rfl
 rw[z04,this]
theorem z0t(p)(i:Nat):z04 p i < 256:=UInt8.toNat_lt _
theorem zai{l:List UInt8}(i:Nat):z04 ⟨l.toArray⟩ i=(l.getD i 0).toNat:=rfl
inductive Part where
 | star
 | any
 | lit (c:Nat)
 | cls (neg:Bool) (rs:List (Nat×Nat))
def z33(rs:List (Nat×Nat))(c:Nat):Bool:=rs.any fun r=>decide (r.1≤c)&&decide (c≤r.2)
def Part.may:Part→Nat→Bool
 | .star,_=>false
 | .any,_=>true
 | .lit x,c=>decide (c=x)
 | .cls neg rs,c=>z33 rs c != neg
def z6r(p:YY):Nat→Nat→Option (List (Nat×Nat)×Nat)
 | 0,_=>none
 | n+1,k=>
  if k < p.size then
   if z04 p k=93 then some ([],k)
   else if k+2 < p.size∧z04 p (k+1)=45∧z04 p (k+2)≠93 then
    if z04 p (k+2) < z04 p k then none
    else (z6r p n (k+3)).map fun x=>((z04 p k,z04 p (k+2)) :: x.1,x.2)
   else (z6r p n (k+1)).map fun x=>((z04 p k,z04 p k) :: x.1,x.2)
  else none
theorem zch(p:YY):∀(m n k:Nat),p.size+1≤n+k→p.size+1≤m+k→z6r p n k=z6r p m k:=by
 intro m
 induction m with
 | zero=>
  intro n k a b;cases n with
  | zero=>rfl
  | succ n=>simp only[z6r];rw[Xc (by omega)]
 | succ m ih=>
  intro n k a b;cases n with
  | zero=>simp only[z6r];rw[Xc (by omega)]
  | succ n=>
   simp only[z6r];rw[ih n (k+3) (by omega) (by omega),ih n (k+1) (by omega) (by omega)]
def cls(p:YY)(k:Nat):Option (List (Nat×Nat)×Nat):=z6r p (p.size+2 - k) k
theorem z95(p)(k:Nat):cls p k =
  if k < p.size then
   if z04 p k=93 then some ([],k)
   else if k+2 < p.size∧z04 p (k+1)=45∧z04 p (k+2)≠93 then
    if z04 p (k+2) < z04 p k then none
    else (cls p (k+3)).map fun x=>((z04 p k,z04 p (k+2)) :: x.1,x.2)
   else (cls p (k+1)).map fun x=>((z04 p k,z04 p k) :: x.1,x.2)
  else none:=by
 by_cases h:k < p.size
 ·obtain⟨m,a⟩:∃m,p.size+2 - k=m+1:=⟨p.size+1 - k,by omega⟩;unfold cls;rw[a];simp only[z6r];rw[zch p (p.size+2 - (k+3)) m (k+3) (by omega) (by omega),zch p (p.size+2 - (k+1)) m (k+1) (by omega) (by omega)]
 ·rw[Xc h];unfold cls;cases p.size+2 - k with
  | zero=>rfl
  | succ m=>simp only[z6r];rw[Xc h]
theorem q5q(p:YY):∀(d k:Nat),p.size≤k+d→∀x,cls p k=some x→k≤x.2∧x.2 < p.size∧z04 p x.2=93:=by
 intro d
 induction d using Nat.strongRecOn with
 | _ d ih=>
  intro k e x a;rw[z95] at a;by_cases hk:k < p.size
  ·rw[Xf hk] at a;by_cases h1:z04 p k=93
   ·rw[Xf h1] at a;cases a;exact⟨Xb _,hk,h1⟩
   ·rw[Xc h1] at a;by_cases h2:k+2 < p.size∧z04 p (k+1)=45∧z04 p (k+2)≠93
    ·rw[Xf h2] at a;by_cases h3:z04 p (k+2) < z04 p k
     ·rw[Xf h3] at a;cases a
     ·rw[Xc h3] at a;obtain⟨y,b,rfl⟩:=Yr.1 a;have:=ih (d - 1) (by omega) (k+3) (by omega) y b;exact⟨by show k≤y.2;omega,this.2⟩
    ·rw[Xc h2] at a;obtain⟨y,b,rfl⟩:=Yr.1 a;have:=ih (d - 1) (by omega) (k+1) (by omega) y b;exact⟨by show k≤y.2;omega,this.2⟩
  ·rw[Xc hk] at a;cases a
def classAns(p:YY)(k:Nat)(first:Bool):Nat×Bool:=
 match cls p k with
 | none=>(0,false)
 | some x=>(x.2,!(first&&x.1.isEmpty))
def z3k(p:YY)(k:Nat):Option (Part×Nat):=
 if k < p.size then
  if z04 p k=42 then some (.star,k+1)
  else if z04 p k=63 then some (.any,k+1)
  else if z04 p k=91 then
   let neg:=decide (k+1 < p.size∧z04 p (k+1)=94)
   match cls p (if neg then k+2 else k+1) with
   | none=>none
   | some x=>if x.1.isEmpty then none else some (.cls neg x.1,x.2+1)
  else if z04 p k=92 then if k+1 < p.size then some (.lit (z04 p (k+1)),k+2) else none
  else some (.lit (z04 p k),k+1)
 else none
theorem zb5{p:YY}{k:Nat}{x:Part×Nat}(h:z3k p k=some x):k < x.2∧x.2≤p.size:=by
 unfold z3k at h;split at h
 ·split at h
  ·cases h;exact⟨by show k < k+1;omega,by show k+1≤_;omega⟩
  ·split at h
   ·cases h;exact⟨by show k < k+1;omega,by show k+1≤_;omega⟩
   ·split at h
    ·simp only at h;split at h
     ·cases h
     ·rename_i y hy;split at h
      ·cases h
      ·cases h;have:=q5q p p.size _ (by omega) y hy;refine⟨?_,by show y.2+1≤_;omega⟩;show k < y.2+1;split at this <;> omega
    ·split at h
     ·split at h
      ·cases h;exact⟨by show k < k+2;omega,by show k+2≤_;omega⟩
      ·cases h
     ·cases h;exact⟨by show k < k+1;omega,by show k+1≤_;omega⟩
 ·cases h
def z8g(p:YY):Nat→Nat→Option (List (Nat×Part))
 | 0,k=>if k < p.size then none else some []
 | n+1,k=>
  if k < p.size then
   match z3k p k with
   | none=>none
   | some x=>(z8g p n x.2).map ((k,x.1) :: ·)
  else some []
theorem znb(p:YY):∀(m n k:Nat),p.size≤n+k→p.size≤m+k→z8g p n k=z8g p m k:=by
 intro m
 induction m with
 | zero=>
  intro n k d b;have a:¬k < p.size:=by omega
  cases n with
  | zero=>rfl
  | succ n=>simp only[z8g];rw[Xc a,Xc a]
 | succ m ih=>
  intro n k d b;cases n with
  | zero=>
   have a:¬k < p.size:=by omega
   simp only[z8g];rw[Xc a,Xc a]
  | succ n=>
   simp only[z8g];by_cases a:k < p.size
   ·rw[Xf a,Xf a];cases h:z3k p k with
    | none=>rfl
    | some x=>
     have:=zb5 h;simp only;rw[ih n x.2 (by omega) (by omega)]
   ·rw[Xc a,Xc a]
def z2k(p:YY)(k:Nat):Option (List (Nat×Part)):=z8g p (p.size - k) k
theorem z6v(p)(k:Nat):z2k p k =
  if k < p.size then
   match z3k p k with
   | none=>none
   | some x=>(z2k p x.2).map ((k,x.1) :: ·)
  else some []:=by
 unfold z2k;by_cases hk:k < p.size
 ·rw[Xf hk];obtain⟨m,a⟩:∃m,p.size - k=m+1:=⟨p.size - k - 1,by omega⟩;rw[a];simp only[z8g];rw[Xf hk];cases h:z3k p k with
  | none=>rfl
  | some x=>
   have:=zb5 h;simp only;rw[znb p (p.size - x.2) m x.2 (by omega) (by omega)]
 ·rw[Xc hk,show p.size - k=0 by omega];simp only[z8g];rw[Xc hk]
theorem zb6(p):∀(n k:Nat) (l:List (Nat×Part)),z8g p n k=some l→l.length≤p.size - k
 | 0,k,l,h=>by
  simp only[z8g] at h;split at h
  ·cases h
  ·cases h;simp
 | n+1,k,l,h=>by
  simp only[z8g] at h;split at h
  ·cases hp:z3k p k with
   | none=>rw[hp] at h;cases h
   | some x=>
    rw[hp] at h;obtain⟨r,hr,rfl⟩:=Yr.1 h;have h1:=zb6 p n x.2 r hr;have h2:=zb5 hp;simp only[Xy];omega
  ·cases h;simp
theorem zkz{p:YY}{l:List (Nat×Part)}(h:z2k p 0=some l):l.length≤p.size:=by
 have:=zb6 p _ 0 l h;omega
def okAt(p:YY)(k:Nat):Bool:=(z2k p k).isSome
def z0z(p:YY):Int:=if 60 < p.size then 2 else if okAt p 0 then 0 else 1
def z3y(P:Part)(f:Nat→Bool)(s:YY):Nat→Bool
 | 0=>match P with
  | .star=>f 0
  | _=>false
 | i+1=>match P with
  | .star=>f (i+1)||z3y P f s i
  | _=>f i&&P.may (z04 s i)
def z3w(ps:List Part)(s:YY):Nat→Bool:=ps.foldl (fun f P=>z3y P f s) (fun i=>decide (i=0))
theorem zhs(ps:List Part)(P:Part)(s):z3w (ps++[P]) s=z3y P (z3w ps s) s:=by simp[z3w]
theorem zht{ps:List Part}{k:Nat}{P:Part}(h:ps[k]? = some P)(s):z3w (ps.take (k+1)) s=z3y P (z3w (ps.take k) s) s:=by
 rw[Xz,h,Uo,zhs]
theorem eqB(p s:YY):(p.toList==s.toList)=decide (p=s):=by
 by_cases h:p=s
 ·subst h;simp
 ·have:p.toList≠s.toList:=fun e=>h (by
   have:=congrArg List.toArray e;cases p;cases s;simpa[ByteArray.toList_eq] using this)
  simp[h,this]
theorem z3p(p:YY)(a b i:Nat)(hb:b≤p.size)(h:a+i < b):z04 (p.extract a b) i=z04 p (a+i):=by
 unfold z04;congr 1;simp only[Xs,ByteArray.data_extract,Kc];congr 1;rw[Jk,Un,Xf (by omega),Yg]
end
structure Itm where
 kind:Int
 text:YY
 list:YX
 pairs:List (YY×YY)
 scores:List (Int×YY)
abbrev yIa(x:Itm)(A:YV)(a:Nat)(B:YV)(b:Nat)(C:YV)(c:Nat):Array Value:=#[.int .i64 x.kind,.string x.text,.slice A x.list.length a,.slice B x.pairs.length b,.slice C x.scores.length c]
abbrev yIl(x:Itm)(A:YV)(a:Nat)(B:YV)(b:Nat)(C:YV)(c:Nat):List Value:=[.int .i64 x.kind,.string x.text,.slice A x.list.length a,.slice B x.pairs.length b,.slice C x.scores.length c]
abbrev yIza:Array Value:=#[.int .i64 0,.string ⟨#[]⟩,.slice none 0 0,.slice none 0 0,.slice none 0 0]
abbrev yIzl:List Value:=[.int .i64 0,.string ⟨#[]⟩,.slice none 0 0,.slice none 0 0,.slice none 0 0]
abbrev yIc(w:World)(p:Nat)(x:Itm)(A:YV)(a:Nat)(B:YV)(b:Nat)(C:YV)(c:Nat):Prop:=w.cell? ⟨p,0,none⟩=some (.int .i64 x.kind)∧w.cell? ⟨p,1,none⟩=some (.string x.text)∧w.cell? ⟨p,2,none⟩=some (.slice A x.list.length a)∧w.cell? ⟨p,3,none⟩=some (.slice B x.pairs.length b)∧w.cell? ⟨p,4,none⟩=some (.slice C x.scores.length c)
def z4i(a b:YY):Int:=Lib.compareBytes a.data.toList b.data.toList
def zn9(a b:YY)(i:Nat):Int:=Lib.compareBytes (a.data.toList.drop i) (b.data.toList.drop i)
theorem zrl(a b):zn9 a b 0=z4i a b:=rfl
theorem zao(a:YY)(i:Nat)(h:i < a.size):∃x:UInt8,a.data.toList.drop i=x :: a.data.toList.drop (i+1)∧x.toNat=z04 a i:=by
 have b:i < a.data.toList.length:=by simpa using h
 refine⟨a.data.toList[i],Yu b,?_⟩;unfold z04;rw[Xs,Xa b];rfl
theorem zrk(a b:YY)(i:Nat)(ha:i < a.size)(hb:i < b.size):
  zn9 a b i=if z04 a i < z04 b i then -1 else if z04 b i < z04 a i then 1 else zn9 a b (i+1):=by
 obtain⟨x,f,e⟩:=zao a i ha;obtain⟨y,g,d⟩:=zao b i hb;unfold zn9;rw[f,g,←e,←d];rfl
theorem zw2(a b:YY)(i:Nat)(ha:i≤a.size)(hb:i≤b.size)(h:¬(i < a.size∧i < b.size)):
  zn9 a b i=if a.size < b.size then -1 else if b.size < a.size then 1 else 0:=by
 unfold zn9;by_cases h1:i < a.size
 ·have e:b.size=i:=by omega
  obtain⟨x,j,_⟩:=zao a i h1;have d:b.data.toList.drop i=[]:=Ui (by simp;omega);rw[j,d,Xc (by omega),Xf (by omega)];rfl
 ·have e:a.size=i:=by omega
  have d:a.data.toList.drop i=[]:=Ui (by simp;omega);by_cases h2:i < b.size
  ·obtain⟨y,g,_⟩:=zao b i h2;rw[d,g,Xf (by omega)];rfl
  ·have f:b.data.toList.drop i=[]:=Ui (by simp;omega);rw[d,f,Xc (by omega),Xc (by omega)];rfl
def z0o(n:Int):Bool:=decide (-999999999≤n)&&decide (n≤999999999)
def z03(l:YX):List Value:=l.map .string
def z0e(l:List (YY×YY)):List Value:=l.flatMap fun p=>[.string p.1,.string p.2]
def z06(l:List (Int×YY)):List Value:=l.flatMap fun p=>[.int .i64 p.1,.string p.2]
def z0p(w:World)(B:Nat)(v:Value)(x:Itm):Prop:=
 ∃A1 c1 A2 c2 A3 c3,v=.agg #[.int .i64 x.kind,.string x.text,.slice A1 x.list.length c1,.slice A2 x.pairs.length c2,.slice A3 x.scores.length c3] ∧
  Sl w B 1 (.slice A1 x.list.length c1) x.list.length (z03 x.list)∧Sl w B 2 (.slice A2 x.pairs.length c2) x.pairs.length (z0e x.pairs)∧Sl w B 2 (.slice A3 x.scores.length c3) x.scores.length (z06 x.scores)
structure Itm.Small(x:Itm):Prop where
 kind:-9223372036854775808≤x.kind∧x.kind≤9223372036854775807
 text:x.text.size≤281474976710656
 list:x.list.length≤281474976710656
 pairs:x.pairs.length≤281474976710656
 scores:x.scores.length≤281474976710656
 texts:∀s∈x.list,s.size≤281474976710656
 fields:∀p∈x.pairs,p.1.size≤281474976710656∧p.2.size≤281474976710656
 members:∀p∈x.scores,(-9223372036854775808≤p.1∧p.1≤9223372036854775807)∧p.2.size≤281474976710656
theorem z0x(l)(i:Nat)(s)(h:l[i]? = some s):(z03 l)[i]? = some (.string s):=by
 simp[z03,h]
theorem z8a(l):(z03 l).length=l.length:=by simp[z03]
theorem z0f:∀(l:List (YY×YY)) (i:Nat) (p:YY×YY),l[i]? = some p→(z0e l)[2 * i]? = some (.string p.1)∧(z0e l)[2 * i+1]? = some (.string p.2)
 | [],i,p,h=>by simp at h
 | q :: l,0,p,h=>by
  simp only[Uq,Option.some.injEq] at h;subst h;exact⟨rfl,rfl⟩
 | q :: l,i+1,p,h=>by
  have:=z0f l i p (by simpa using h);rw[show 2 * (i+1)=2 * i+1+1 by omega];exact⟨by simpa[z0e] using this.1,by simpa[z0e] using this.2⟩
theorem z7y:∀l:List (YY×YY),(z0e l).length=2 * l.length
 | []=>rfl
 | q :: l=>by
  have:=z7y l;simp only[z0e,Ul,Xk,Xy,List.length_nil] at this ⊢;omega
theorem z0b:∀(l:List (Int×YY)) (i:Nat) (p:Int×YY),l[i]? = some p→(z06 l)[2 * i]? = some (.int .i64 p.1)∧(z06 l)[2 * i+1]? = some (.string p.2)
 | [],i,p,h=>by simp at h
 | q :: l,0,p,h=>by
  simp only[Uq,Option.some.injEq] at h;subst h;exact⟨rfl,rfl⟩
 | q :: l,i+1,p,h=>by
  have:=z0b l i p (by simpa using h);rw[show 2 * (i+1)=2 * i+1+1 by omega];exact⟨by simpa[z06] using this.1,by simpa[z06] using this.2⟩
theorem z6w:∀l:List (Int×YY),(z06 l).length=2 * l.length
 | []=>rfl
 | q :: l=>by
  have:=z6w l;simp only[z06,Ul,Xk,Xy,List.length_nil] at this ⊢;omega
theorem z0p.keep{w w':World}{B:Nat}{v:Value}{x:Itm}(h:z0p w B v x)(hk:∀p:Addr,p.block < B→w'.cell? p=w.cell? p):z0p w' B v x:=by
 obtain⟨a,c1,d,c2,b,g,e,j,f,h3⟩:=h;exact⟨a,c1,d,c2,b,g,e,j.keep hk,f.keep hk,h3.keep hk⟩
theorem z0p.fr{w w':World}{B:Nat}{S:List Nat}{v:Value}{x:Itm}(h:z0p w B v x)(hf:Fr S w w')(hB:B≤w.heap.size)(hS:∀k,k∈S→B≤k):z0p w' B v x:=
 h.keep fun _ hp=>(hf.belowOf hB hS).cell hp
theorem z0p.more{w:World}{B B':Nat}{v:Value}{x:Itm}(h:z0p w B v x)(hB:B≤B'):z0p w B' v x:=by
 obtain⟨a,c1,d,c2,b,g,e,j,f,h3⟩:=h;exact⟨a,c1,d,c2,b,g,e,j.more hB,f.more hB,h3.more hB⟩
theorem Sl.at_{w:World}{B size n c:Nat}{A:YV}{xs:List Value}(h:Sl w B size (.slice A n c) n xs)(hn:0 < n):
  ∃b off,A=some ⟨b,off,none⟩∧b < B∧n≤c∧c≤maxLen∧∀j u,xs[j]? = some u→w.cell? ⟨b,off+j,none⟩=some u:=by
 obtain⟨p,m,e,l,g,d,hr⟩:=h;cases e;obtain⟨b,off,k,f,a⟩:=hr hn;exact⟨b,off,k,f,g,d,a⟩
def z6q(x:Itm):Bool:=
 (x.kind==1||x.text.size==0)&&(x.kind==2||x.kind==3||x.list.length==0)&&(x.kind==4||x.pairs.length==0)&&(x.kind==5||x.scores.length==0)
def many(x:Itm):Nat:=x.list.length+x.pairs.length+x.scores.length
section
open Go.RowKit
section
variable {w w':World} {base e size n:Nat} {v:Value} {xs:List Value}
theorem z0u{b T:Nat}{cs:List Value}(h:w.ownsRow base e size v n xs)(hw:Whole w b T cs)(hT:T≠e):v.ownBlock≠some b:=by
 rcases h.2 with⟨rfl,_⟩|⟨g,cap,cur,rfl,_,hg,_⟩
 ·simp[Value.ownBlock]
 ·intro a;have:g=b:=by simpa[Value.ownBlock] using a
  subst this;unfold Whole at hw;rw[hg] at hw;injection hw with hw
  injection hw with _ ht
  exact hT ht.symm
theorem z7v{base' e' size' n':Nat}{v':Value}{xs':List Value}(h:w.ownsRow base e size v n xs)(h':w.ownsRow base' e' size' v' n' xs')(hT:e≠e'):v.ownBlock=none∨v.ownBlock≠v'.ownBlock:=by
 rcases h.2 with⟨rfl,_⟩|⟨g,cap,cur,rfl,_,hg,_⟩
 ·exact .inl rfl
 ·refine .inr fun a=>?_;rcases h'.2 with⟨rfl,_⟩|⟨g',cap',cur',rfl,_,hg',_⟩
  ·simp[Value.ownBlock] at a
  ·have:g=g':=by simpa[Value.ownBlock] using a
   subst this;rw[hg] at hg';injection hg' with hg'
   injection hg' with _ ht
   exact hT ht
theorem z08{S:List Nat}(h:w.ownsRow base e size v n xs)(hf:Fr S w w')(hn:∀k,v.ownBlock=some k→k∉S):w'.ownsRow base e size v n xs:=by
 refine⟨h.1,?_⟩;rcases h.2 with hz|⟨g,cap,cur,rfl,hb,hgg,rest⟩
 ·exact .inl hz
 ·refine .inr ⟨g,cap,cur,rfl,hb,?_,rest⟩;rw[hf.block g (Uv.1 hgg).1 (hn g rfl)];exact hgg
theorem z0r{p:Addr}(u)(h:w.ownsRow base e size v n xs)(hn:v.ownBlock≠some p.block):(w.setCell p u).ownsRow base e size v n xs:=
 h.kept (row:=some p.block) ⟨rfl,rfl,rfl,by simp[World.setCell],fun k _ hk=>Below.heap_setCell _ _ _ _ (fun e=>hk (by simp[e]))⟩ (Or.inr hn)
theorem z0l(h:w.ownsRow base e size v n xs):Sl w w.heap.size size v n xs:=by
 rcases h.2 with⟨rfl,rfl⟩|⟨g,cap,cur,rfl,hb,hgg,hnc,hcm,hcs,ht⟩
 ·have:xs=[]:=Xo (by have:=h.1;omega);subst this;exact Sl.nil _ _ _
 ·exact⟨_,cap,rfl,h.1,hnc,hcm,fun _=>⟨g,0,rfl,(Uv.1 hgg).1,fun j u a=>by
   have:=h.cells (g:=g) rfl j u a;rw[Yw];unfold Addr.add at this;split at this
   ·have e:j=0:=by assumption
    rw[e];exact this
   ·simpa using this⟩⟩
end
structure FrB(S:List Nat)(B:Nat)(a b:World):Prop where
 os:b.os=a.os
 tape:b.tape=a.tape
 output:b.output=a.output
 size:a.heap.size≤b.heap.size
 block:∀k,k < a.heap.size→k < B→k∉S→b.heap[k]? = a.heap[k]?
section
variable {a b c w w':World} {S T:List Nat} {B:Nat}
theorem Fr.toB(h:Fr S a b)(B:Nat):FrB S B a b:=⟨h.os,h.tape,h.output,h.size,fun k hk _ hn=>h.block k hk hn⟩
theorem FrB.refl(S:List Nat)(B:Nat)(w):FrB S B w w:=⟨rfl,rfl,rfl,Xb _,fun _ _ _ _=>rfl⟩
theorem FrB.trans(h:FrB S B a b)(k:FrB S B b c):FrB S B a c:=
 ⟨k.os.trans h.os,k.tape.trans h.tape,k.output.trans h.output,Xd h.size k.size,fun i hi hB hn=>(k.block i (Yx hi h.size) hB hn).trans (h.block i hi hB hn)⟩
theorem FrB.more(h:FrB S B a b)(hs:∀k,k∈S→k∈T∨B≤k):FrB T B a b:=
 ⟨h.os,h.tape,h.output,h.size,fun i hi hB hn=>h.block i hi hB (fun hm=>by
  rcases hs i hm with hT|hT
  ·exact hn hT
  ·omega)⟩
theorem FrB.alloc(h:FrB S B a b)(o:Obj):FrB S B a (b.alloc o):=
 ⟨h.os,h.tape,h.output,Xd h.size (by simp),fun i hi hB hn=>(Below.heap_alloc b o i (Yx hi h.size)).trans (h.block i hi hB hn)⟩
theorem FrB.setCell(h:FrB S B a b){p:Addr}(hp:p.block∈S∨B≤p.block)(u):FrB S B a (b.setCell p u):=
 ⟨h.os,h.tape,h.output,by simpa[World.setCell] using h.size,fun i hi hB hn=>(Below.heap_setCell b p u i (by
  rintro rfl;rcases hp with hp|hp
  ·exact hn hp
  ·omega)).trans (h.block i hi hB hn)⟩
theorem FrB.grown(h:FrB S B a b){row:Option Nat}(hg:b.grownBy c row)(hr:∀k,row=some k→k∈S∨B≤k):FrB S B a c:=
 ⟨hg.os.trans h.os,hg.tape.trans h.tape,hg.output.trans h.output,Xd h.size hg.size,fun i hi hB hn=>(hg.block i (Yx hi h.size) (fun e=>by
  rcases hr i e.symm with h1|h1
  ·exact hn h1
  ·omega)).trans (h.block i hi hB hn)⟩
theorem FrB.fr(h:FrB S B a b)(hB:a.heap.size≤B):Fr S a b:=⟨h.os,h.tape,h.output,h.size,fun k hk hn=>h.block k hk (by omega) hn⟩
theorem FrB.whole{g t:Nat}{cs:List Value}(h:FrB S B w w')(hw:Whole w g t cs)(hB:g < B)(hn:g∉S):Whole w' g t cs:=(h.block g hw.lt hB hn).trans hw
theorem FrB.belowOf(h:FrB S B a b){D:Nat}(hD:D≤a.heap.size)(hDB:D≤B)(hS:∀k,k∈S→D≤k):Below D a b:=
 ⟨h.os,h.tape,h.output,h.size,fun i hi=>h.block i (by omega) (by omega) (fun hm=>by have:=hS i hm;omega)⟩
end
end
end Go.Proofs.YtnmoajaelmimnaaGreatDoor
namespace Go.Proofs
open Go.Proofs.Tryz (prog)
section
open Go.Shelf
def Tryz.lays137_ren:Go.Shelf.Ren:=⟨fun|137=>117|217=>165|266=>238|n=>n,fun|9=>9|5=>5|3=>3|n=>n,fun|n=>n⟩
theorem Tryz.lays137:Go.Proofs.Lays.n137 prog Tryz.lays137_ren:={
 mixed:=by kernel_rfl
 f137:=Tryz.func117.trans (congrArg some (by kernel_rfl))
 f217:=Tryz.func165.trans (congrArg some (by kernel_rfl))
 f266:=Tryz.func238.trans (congrArg some (by kernel_rfl))
 t3:=Tryz.underlying3
 a3:=Tryz.isAgg3
 z3:=Tryz.sizeOf3
 v3:=Tryz.zeroValue3
 t5:=Tryz.underlying5
 a5:=Tryz.isAgg5
 z5:=Tryz.sizeOf5
 v5:=Tryz.zeroValue5
 t9:=Tryz.underlying9
 a9:=Tryz.isAgg9
 z9:=Tryz.sizeOf9
 v9:=Tryz.zeroValue9 }
open Go.RowKit in
theorem Tryz.strings_IndexByte(s:ByteArray)(c:Int)(w:World):
  Calls prog 117 #[.string s,.int .u8 c] w fun e w'=>e=.returned (.int .i64 (Lib.indexByte s.data.toList c.toNat.toUInt8))∧w'=w:=Any.strings_IndexByte Tryz.lays137 s c w
def Tryz.laysM171_ren:Go.Shelf.Ren:=⟨fun|171=>115|243=>164|246=>237|283=>296|284=>297|285=>298|286=>299|129=>323|317=>322|318=>324|319=>325|320=>326|337=>338|338=>339|n=>n,fun|3=>3|9=>9|2=>2|4=>4|171=>281|0=>0|53=>275|37=>142|5=>5|173=>284|212=>306|51=>307|20=>20|213=>308|46=>248|232=>338|233=>339|n=>n,fun|17=>3|18=>4|19=>5|n=>n⟩
theorem Tryz.laysM171:Go.Proofs.LaysM.n171 prog Tryz.laysM171_ren:={
 mixed:=by kernel_rfl
 f129:=Tryz.func323.trans (congrArg some (by kernel_rfl))
 f171:=Tryz.func115.trans (congrArg some (by kernel_rfl))
 f243:=Tryz.func164.trans (congrArg some (by kernel_rfl))
 f246:=Tryz.func237.trans (congrArg some (by kernel_rfl))
 f283:=Tryz.func296.trans (congrArg some (by kernel_rfl))
 f284:=Tryz.func297.trans (congrArg some (by kernel_rfl))
 f285:=Tryz.func298.trans (congrArg some (by kernel_rfl))
 f286:=Tryz.func299.trans (congrArg some (by kernel_rfl))
 f317:=Tryz.func322.trans (congrArg some (by kernel_rfl))
 f318:=Tryz.func324.trans (congrArg some (by kernel_rfl))
 f319:=Tryz.func325.trans (congrArg some (by kernel_rfl))
 f320:=Tryz.func326.trans (congrArg some (by kernel_rfl))
 f337:=Tryz.func338.trans (congrArg some (by kernel_rfl))
 f338:=Tryz.func339.trans (congrArg some (by kernel_rfl))
 t0:=Tryz.underlying0
 a0:=Tryz.isAgg0
 z0:=Tryz.sizeOf0
 v0:=Tryz.zeroValue0
 t2:=Tryz.underlying2
 a2:=Tryz.isAgg2
 z2:=Tryz.sizeOf2
 v2:=Tryz.zeroValue2
 t3:=Tryz.underlying3
 a3:=Tryz.isAgg3
 z3:=Tryz.sizeOf3
 v3:=Tryz.zeroValue3
 t4:=Tryz.underlying4
 a4:=Tryz.isAgg4
 z4:=Tryz.sizeOf4
 v4:=Tryz.zeroValue4
 t5:=Tryz.underlying5
 a5:=Tryz.isAgg5
 z5:=Tryz.sizeOf5
 v5:=Tryz.zeroValue5
 t9:=Tryz.underlying9
 a9:=Tryz.isAgg9
 z9:=Tryz.sizeOf9
 v9:=Tryz.zeroValue9
 t20:=Tryz.underlying20
 a20:=Tryz.isAgg20
 z20:=Tryz.sizeOf20
 v20:=Tryz.zeroValue20
 t37:=Tryz.underlying142
 a37:=Tryz.isAgg142
 z37:=Tryz.sizeOf142
 v37:=Tryz.zeroValue142
 t46:=Tryz.underlying248
 a46:=Tryz.isAgg248
 z46:=Tryz.sizeOf248
 v46:=Tryz.zeroValue248
 t51:=Tryz.underlying307
 a51:=Tryz.isAgg307
 z51:=Tryz.sizeOf307
 v51:=Tryz.zeroValue307
 t53:=Tryz.underlying275
 a53:=Tryz.isAgg275
 z53:=Tryz.sizeOf275
 v53:=Tryz.zeroValue275
 t171:=Tryz.underlying281
 a171:=Tryz.isAgg281
 z171:=Tryz.sizeOf281
 v171:=Tryz.zeroValue281
 t173:=Tryz.underlying284
 a173:=Tryz.isAgg284
 z173:=Tryz.sizeOf284
 v173:=Tryz.zeroValue284
 t212:=Tryz.underlying306
 a212:=Tryz.isAgg306
 z212:=Tryz.sizeOf306
 v212:=Tryz.zeroValue306
 t213:=Tryz.underlying308
 a213:=Tryz.isAgg308
 z213:=Tryz.sizeOf308
 t232:=Tryz.underlying338
 a232:=Tryz.isAgg338
 z232:=Tryz.sizeOf338
 v232:=Tryz.zeroValue338
 t233:=Tryz.underlying339
 a233:=Tryz.isAgg339
 z233:=Tryz.sizeOf339
 v233:=Tryz.zeroValue339
 g17:=by kernel_rfl
 g18:=by kernel_rfl
 g19:=by kernel_rfl
 i0:=by kernel_rfl
 i2:=by kernel_rfl
 i3:=by kernel_rfl
 i4:=by kernel_rfl
 i5:=by kernel_rfl
 i9:=by kernel_rfl
 i20:=by kernel_rfl
 i37:=by kernel_rfl
 i46:=by kernel_rfl
 i51:=by kernel_rfl
 i53:=by kernel_rfl
 i171:=by kernel_rfl
 i173:=by kernel_rfl
 i212:=by kernel_rfl
 i232:=by kernel_rfl
 i233:=by kernel_rfl
 m17:=by kernel_rfl
 m18:=by kernel_rfl
 m19:=by kernel_rfl }
open Go.RowKit Go.Sort Go.Lib in
theorem Tryz.strconv_Itoa(n:Int)(h0:-9223372036854775808≤n)(h1:n≤9223372036854775807)(w)(htab:Lib.TabIs prog w "internal/strconv.uint64pow10" .u64 Lib.pow10Tab):
  Calls prog 115 #[.int .i64 n] w fun e w'=>e=.returned (.string ⟨(Lib.itoa n).toArray⟩)∧∃k os,w'=grow (w.drewN k) os:=Any.strconv_Itoa Tryz.laysM171 n h0 h1 w htab
def Tryz.laysC172_ren:Go.Shelf.Ren:=⟨fun|172=>114|244=>162|245=>163|247=>232|279=>233|280=>234|281=>235|282=>236|287=>293|316=>294|171=>115|205=>295|321=>320|322=>321|243=>164|246=>237|283=>296|284=>297|285=>298|286=>299|129=>323|317=>322|318=>324|319=>325|320=>326|337=>338|338=>339|n=>n,fun|9=>9|3=>3|75=>155|76=>156|4=>4|5=>5|167=>237|37=>142|0=>0|85=>238|2=>2|168=>240|53=>275|175=>276|46=>248|210=>279|127=>246|145=>304|143=>302|21=>21|171=>281|173=>284|212=>306|51=>307|20=>20|213=>308|232=>338|233=>339|80=>171|n=>n,fun|15=>1|16=>2|17=>3|18=>4|19=>5|n=>n⟩
theorem Tryz.laysC172:Go.Proofs.LaysC.n172 prog Tryz.laysC172_ren:={
 mixed:=by kernel_rfl
 f129:=Tryz.func323.trans (congrArg some (by kernel_rfl))
 f171:=Tryz.func115.trans (congrArg some (by kernel_rfl))
 f172:=Tryz.func114.trans (congrArg some (by kernel_rfl))
 f205:=Tryz.func295.trans (congrArg some (by kernel_rfl))
 f243:=Tryz.func164.trans (congrArg some (by kernel_rfl))
 f244:=Tryz.func162.trans (congrArg some (by kernel_rfl))
 f245:=Tryz.func163.trans (congrArg some (by kernel_rfl))
 f246:=Tryz.func237.trans (congrArg some (by kernel_rfl))
 f247:=Tryz.func232.trans (congrArg some (by kernel_rfl))
 f279:=Tryz.func233.trans (congrArg some (by kernel_rfl))
 f280:=Tryz.func234.trans (congrArg some (by kernel_rfl))
 f281:=Tryz.func235.trans (congrArg some (by kernel_rfl))
 f282:=Tryz.func236.trans (congrArg some (by kernel_rfl))
 f283:=Tryz.func296.trans (congrArg some (by kernel_rfl))
 f284:=Tryz.func297.trans (congrArg some (by kernel_rfl))
 f285:=Tryz.func298.trans (congrArg some (by kernel_rfl))
 f286:=Tryz.func299.trans (congrArg some (by kernel_rfl))
 f287:=Tryz.func293.trans (congrArg some (by kernel_rfl))
 f316:=Tryz.func294.trans (congrArg some (by kernel_rfl))
 f317:=Tryz.func322.trans (congrArg some (by kernel_rfl))
 f318:=Tryz.func324.trans (congrArg some (by kernel_rfl))
 f319:=Tryz.func325.trans (congrArg some (by kernel_rfl))
 f320:=Tryz.func326.trans (congrArg some (by kernel_rfl))
 f321:=Tryz.func320.trans (congrArg some (by kernel_rfl))
 f322:=Tryz.func321.trans (congrArg some (by kernel_rfl))
 f337:=Tryz.func338.trans (congrArg some (by kernel_rfl))
 f338:=Tryz.func339.trans (congrArg some (by kernel_rfl))
 t0:=Tryz.underlying0
 a0:=Tryz.isAgg0
 z0:=Tryz.sizeOf0
 v0:=Tryz.zeroValue0
 t2:=Tryz.underlying2
 a2:=Tryz.isAgg2
 z2:=Tryz.sizeOf2
 v2:=Tryz.zeroValue2
 t3:=Tryz.underlying3
 a3:=Tryz.isAgg3
 z3:=Tryz.sizeOf3
 v3:=Tryz.zeroValue3
 t4:=Tryz.underlying4
 a4:=Tryz.isAgg4
 z4:=Tryz.sizeOf4
 v4:=Tryz.zeroValue4
 t5:=Tryz.underlying5
 a5:=Tryz.isAgg5
 z5:=Tryz.sizeOf5
 v5:=Tryz.zeroValue5
 t9:=Tryz.underlying9
 a9:=Tryz.isAgg9
 z9:=Tryz.sizeOf9
 v9:=Tryz.zeroValue9
 t20:=Tryz.underlying20
 a20:=Tryz.isAgg20
 z20:=Tryz.sizeOf20
 v20:=Tryz.zeroValue20
 t21:=Tryz.underlying21
 a21:=Tryz.isAgg21
 z21:=Tryz.sizeOf21
 v21:=Tryz.zeroValue21
 t37:=Tryz.underlying142
 a37:=Tryz.isAgg142
 z37:=Tryz.sizeOf142
 v37:=Tryz.zeroValue142
 t46:=Tryz.underlying248
 a46:=Tryz.isAgg248
 z46:=Tryz.sizeOf248
 v46:=Tryz.zeroValue248
 t51:=Tryz.underlying307
 a51:=Tryz.isAgg307
 z51:=Tryz.sizeOf307
 v51:=Tryz.zeroValue307
 t53:=Tryz.underlying275
 a53:=Tryz.isAgg275
 z53:=Tryz.sizeOf275
 v53:=Tryz.zeroValue275
 t75:=Tryz.underlying155
 a75:=Tryz.isAgg155
 z75:=Tryz.sizeOf155
 v75:=Tryz.zeroValue155
 t76:=Tryz.underlying156
 a76:=Tryz.isAgg156
 z76:=Tryz.sizeOf156
 v76:=Tryz.zeroValue156
 t85:=Tryz.underlying238
 a85:=Tryz.isAgg238
 z85:=Tryz.sizeOf238
 v85:=Tryz.zeroValue238
 t127:=Tryz.underlying246
 a127:=Tryz.isAgg246
 z127:=Tryz.sizeOf246
 v127:=Tryz.zeroValue246
 t143:=Tryz.underlying302
 a143:=Tryz.isAgg302
 z143:=Tryz.sizeOf302
 v143:=Tryz.zeroValue302
 t145:=Tryz.underlying304
 a145:=Tryz.isAgg304
 z145:=Tryz.sizeOf304
 v145:=Tryz.zeroValue304
 t167:=Tryz.underlying237
 a167:=Tryz.isAgg237
 z167:=Tryz.sizeOf237
 v167:=Tryz.zeroValue237
 t168:=Tryz.underlying240
 a168:=Tryz.isAgg240
 z168:=Tryz.sizeOf240
 v168:=Tryz.zeroValue240
 t171:=Tryz.underlying281
 a171:=Tryz.isAgg281
 z171:=Tryz.sizeOf281
 v171:=Tryz.zeroValue281
 t173:=Tryz.underlying284
 a173:=Tryz.isAgg284
 z173:=Tryz.sizeOf284
 v173:=Tryz.zeroValue284
 t175:=Tryz.underlying276
 a175:=Tryz.isAgg276
 z175:=Tryz.sizeOf276
 v175:=Tryz.zeroValue276
 t210:=Tryz.underlying279
 a210:=Tryz.isAgg279
 z210:=Tryz.sizeOf279
 v210:=Tryz.zeroValue279
 t212:=Tryz.underlying306
 a212:=Tryz.isAgg306
 z212:=Tryz.sizeOf306
 v212:=Tryz.zeroValue306
 t213:=Tryz.underlying308
 a213:=Tryz.isAgg308
 z213:=Tryz.sizeOf308
 t232:=Tryz.underlying338
 a232:=Tryz.isAgg338
 z232:=Tryz.sizeOf338
 v232:=Tryz.zeroValue338
 t233:=Tryz.underlying339
 a233:=Tryz.isAgg339
 z233:=Tryz.sizeOf339
 v233:=Tryz.zeroValue339
 g15:=by kernel_rfl
 g16:=by kernel_rfl
 g17:=by kernel_rfl
 g18:=by kernel_rfl
 g19:=by kernel_rfl
 t80:=Tryz.underlying171
 a80:=Tryz.isAgg171
 z80:=Tryz.sizeOf171
 v80:=Tryz.zeroValue171
 i0:=by kernel_rfl
 i2:=by kernel_rfl
 i3:=by kernel_rfl
 i4:=by kernel_rfl
 i5:=by kernel_rfl
 i9:=by kernel_rfl
 i20:=by kernel_rfl
 i21:=by kernel_rfl
 i37:=by kernel_rfl
 i46:=by kernel_rfl
 i51:=by kernel_rfl
 i53:=by kernel_rfl
 i75:=by kernel_rfl
 i76:=by kernel_rfl
 i80:=by kernel_rfl
 i85:=by kernel_rfl
 i127:=by kernel_rfl
 i143:=by kernel_rfl
 i145:=by kernel_rfl
 i167:=by kernel_rfl
 i168:=by kernel_rfl
 i171:=by kernel_rfl
 i173:=by kernel_rfl
 i175:=by kernel_rfl
 i210:=by kernel_rfl
 i212:=by kernel_rfl
 i232:=by kernel_rfl
 i233:=by kernel_rfl
 m15:=by kernel_rfl
 m16:=by kernel_rfl
 m17:=by kernel_rfl
 m18:=by kernel_rfl
 m19:=by kernel_rfl
 c0:=by kernel_rfl
 c2:=by kernel_rfl
 c3:=by kernel_rfl
 c4:=by kernel_rfl
 c5:=by kernel_rfl
 c9:=by kernel_rfl
 c20:=by kernel_rfl
 c21:=by kernel_rfl
 c37:=by kernel_rfl
 c46:=by kernel_rfl
 c51:=by kernel_rfl
 c53:=by kernel_rfl
 c75:=by kernel_rfl
 c76:=by kernel_rfl
 c80:=by kernel_rfl
 c85:=by kernel_rfl
 c127:=by kernel_rfl
 c143:=by kernel_rfl
 c145:=by kernel_rfl
 c167:=by kernel_rfl
 c168:=by kernel_rfl
 c171:=by kernel_rfl
 c173:=by kernel_rfl
 c175:=by kernel_rfl
 c210:=by kernel_rfl
 c212:=by kernel_rfl
 c213:=by kernel_rfl
 c232:=by kernel_rfl
 c233:=by kernel_rfl }
open Go.RowKit in
theorem Tryz.strconv_Atoi_ok(s:ByteArray)(hmax:s.size≤9223372036854775806)(v:Int)(h:Lib.atoiAll s.data.toList=.ok v)(w:World):
  Calls prog 114 #[.string s] w fun e w'=>e=.returned (.tuple #[.int .i64 v,.nilIface])∧(w'=w∨∃t,w'=Lib.bytesWorld w 5 t):=Any.strconv_Atoi_ok Tryz.laysC172 s hmax v h w
open Go.RowKit in
theorem Tryz.strconv_Atoi_syntax_var(s:ByteArray)(hlim:s.size≤281474976710656)(h:Lib.atoiAll s.data.toList=Lib.atoiAll [])(tp:TypeId)(p)(w:World)(hvar:w.var? prog "strconv.ErrSyntax" = some #[.iface tp p]):
  Calls prog 114 #[.string s] w fun e w'=>∃N,e=.returned (.tuple #[.int .i64 0,.iface 240 (.pointer (some ⟨N,0,none⟩))])∧w.heap.size≤N∧w'.heap[N]? = some (.cells #[.string ⟨#[65,116,111,105]⟩,.string s,.iface tp p] 279 (0,0))∧Below w.heap.size w w':=Any.strconv_Atoi_syntax_var Tryz.laysC172 s hlim h tp p w hvar
open Go.RowKit in
theorem Tryz.strconv_Atoi_range_var(s:ByteArray)(hlim:s.size≤281474976710656)(h:Lib.atoiAll s.data.toList=.range)(tp:TypeId)(p)(w:World)(hvar:w.var? prog "strconv.ErrRange" = some #[.iface tp p]):
  Calls prog 114 #[.string s] w fun e w'=>∃N,e=.returned (.tuple #[.int .i64 (Lib.atoiSat s.data.toList),.iface 240 (.pointer (some ⟨N,0,none⟩))])∧w.heap.size≤N∧w'.heap[N]? = some (.cells #[.string ⟨#[65,116,111,105]⟩,.string s,.iface tp p] 279 (0,0))∧Below w.heap.size w w':=Any.strconv_Atoi_range_var Tryz.laysC172 s hlim h tp p w hvar
def Tryz.lays190_ren:Go.Shelf.Ren:=⟨fun|190=>310|125=>333|258=>332|128=>352|129=>323|302=>344|303=>345|304=>346|305=>347|306=>348|307=>349|308=>334|309=>350|310=>351|333=>361|329=>362|330=>363|334=>364|335=>365|336=>353|344=>369|n=>n,fun|31=>24|9=>9|3=>3|46=>248|0=>0|51=>307|53=>275|4=>4|183=>331|182=>330|131=>72|5=>5|218=>343|222=>347|228=>351|229=>253|n=>n,fun|n=>n⟩
theorem Tryz.lays190:Go.Proofs.Lays.n190 prog Tryz.lays190_ren:={
 mixed:=by kernel_rfl
 f125:=Tryz.func333.trans (congrArg some (by kernel_rfl))
 f128:=Tryz.func352.trans (congrArg some (by kernel_rfl))
 f129:=Tryz.func323.trans (congrArg some (by kernel_rfl))
 f190:=Tryz.func310.trans (congrArg some (by kernel_rfl))
 f258:=Tryz.func332.trans (congrArg some (by kernel_rfl))
 f302:=Tryz.func344.trans (congrArg some (by kernel_rfl))
 f303:=Tryz.func345.trans (congrArg some (by kernel_rfl))
 f304:=Tryz.func346.trans (congrArg some (by kernel_rfl))
 f305:=Tryz.func347.trans (congrArg some (by kernel_rfl))
 f306:=Tryz.func348.trans (congrArg some (by kernel_rfl))
 f307:=Tryz.func349.trans (congrArg some (by kernel_rfl))
 f308:=Tryz.func334.trans (congrArg some (by kernel_rfl))
 f309:=Tryz.func350.trans (congrArg some (by kernel_rfl))
 f310:=Tryz.func351.trans (congrArg some (by kernel_rfl))
 f329:=Tryz.func362.trans (congrArg some (by kernel_rfl))
 f330:=Tryz.func363.trans (congrArg some (by kernel_rfl))
 f333:=Tryz.func361.trans (congrArg some (by kernel_rfl))
 f334:=Tryz.func364.trans (congrArg some (by kernel_rfl))
 f335:=Tryz.func365.trans (congrArg some (by kernel_rfl))
 f336:=Tryz.func353.trans (congrArg some (by kernel_rfl))
 f344:=Tryz.func369.trans (congrArg some (by kernel_rfl))
 t0:=Tryz.underlying0
 a0:=Tryz.isAgg0
 z0:=Tryz.sizeOf0
 v0:=Tryz.zeroValue0
 t3:=Tryz.underlying3
 a3:=Tryz.isAgg3
 z3:=Tryz.sizeOf3
 v3:=Tryz.zeroValue3
 t4:=Tryz.underlying4
 a4:=Tryz.isAgg4
 z4:=Tryz.sizeOf4
 v4:=Tryz.zeroValue4
 t5:=Tryz.underlying5
 a5:=Tryz.isAgg5
 z5:=Tryz.sizeOf5
 v5:=Tryz.zeroValue5
 t9:=Tryz.underlying9
 a9:=Tryz.isAgg9
 z9:=Tryz.sizeOf9
 v9:=Tryz.zeroValue9
 t31:=Tryz.underlying24
 a31:=Tryz.isAgg24
 z31:=Tryz.sizeOf24
 v31:=Tryz.zeroValue24
 t46:=Tryz.underlying248
 a46:=Tryz.isAgg248
 z46:=Tryz.sizeOf248
 v46:=Tryz.zeroValue248
 t51:=Tryz.underlying307
 a51:=Tryz.isAgg307
 z51:=Tryz.sizeOf307
 v51:=Tryz.zeroValue307
 t53:=Tryz.underlying275
 a53:=Tryz.isAgg275
 z53:=Tryz.sizeOf275
 v53:=Tryz.zeroValue275
 t131:=Tryz.underlying72
 a131:=Tryz.isAgg72
 z131:=Tryz.sizeOf72
 v131:=Tryz.zeroValue72
 t182:=Tryz.underlying330
 a182:=Tryz.isAgg330
 z182:=Tryz.sizeOf330
 v182:=Tryz.zeroValue330
 t183:=Tryz.underlying331
 a183:=Tryz.isAgg331
 z183:=Tryz.sizeOf331
 v183:=Tryz.zeroValue331
 t218:=Tryz.underlying343
 a218:=Tryz.isAgg343
 z218:=Tryz.sizeOf343
 v218:=Tryz.zeroValue343
 t222:=Tryz.underlying347
 a222:=Tryz.isAgg347
 z222:=Tryz.sizeOf347
 v222:=Tryz.zeroValue347
 t228:=Tryz.underlying351
 a228:=Tryz.isAgg351
 z228:=Tryz.sizeOf351
 v228:=Tryz.zeroValue351
 t229:=Tryz.underlying253
 a229:=Tryz.isAgg253
 z229:=Tryz.sizeOf253
 v229:=Tryz.zeroValue253 }
open Go.Sort Go.RowKit in
theorem Tryz.slices_Sort_string(blk off cap:Nat)(ss:List (List UInt8))(w)(hH:Holds encStr w blk off ss.toArray)(hblk:blk < w.heap.size)(hsz:ss.length < 4611686018427387904):
  Calls prog 310 #[.slice (some ⟨blk,off,none⟩) ss.length cap] w fun e w'=>
   e=.returned (.tuple #[])∧∃n os,w'=grow (putRow encStr (Sort.ahead w n) blk off (ss.mergeSort fun x y=>decide (x≤y)).toArray) os:=Any.slices_Sort_string Tryz.lays190 blk off cap ss w hH hblk hsz
def Tryz.lays194_ren:Go.Shelf.Ren:=⟨fun|194=>311|n=>n,fun|31=>24|9=>9|3=>3|4=>4|0=>0|n=>n,fun|n=>n⟩
theorem Tryz.lays194:Go.Proofs.Lays.n194 prog Tryz.lays194_ren:={
 mixed:=by kernel_rfl
 f194:=Tryz.func311.trans (congrArg some (by kernel_rfl))
 t0:=Tryz.underlying0
 a0:=Tryz.isAgg0
 z0:=Tryz.sizeOf0
 v0:=Tryz.zeroValue0
 t3:=Tryz.underlying3
 a3:=Tryz.isAgg3
 z3:=Tryz.sizeOf3
 v3:=Tryz.zeroValue3
 t4:=Tryz.underlying4
 a4:=Tryz.isAgg4
 z4:=Tryz.sizeOf4
 v4:=Tryz.zeroValue4
 t9:=Tryz.underlying9
 a9:=Tryz.isAgg9
 z9:=Tryz.sizeOf9
 v9:=Tryz.zeroValue9
 t31:=Tryz.underlying24
 a31:=Tryz.isAgg24
 z31:=Tryz.sizeOf24
 v31:=Tryz.zeroValue24 }
open Go.RowKit Go.Lib Go.Sort in
theorem Tryz.slices_Compact_string(blk off cap:Nat)(zs:List (List UInt8))(w)(hH:Holds encStr w blk off zs.toArray)(hsz:zs.length≤9223372036854775807)(hcap:zs.length≤cap):
  Calls prog 311 #[.slice (some ⟨blk,off,none⟩) zs.length cap] w fun e w'=>e=.returned (.slice (some ⟨blk,off,none⟩) (Lib.compact zs).length cap)∧∃q,w'=putRow encStr (Sort.ahead w q) blk off (Lib.compact zs++List.replicate (zs.length - (Lib.compact zs).length) []).toArray:=Any.slices_Compact_string Tryz.lays194 blk off cap zs w hH hsz hcap
open Go.RowKit Go.Lib Go.Sort in
theorem Tryz.slices_Compact_string_empty(a:Option Addr)(cap:Nat)(w:World):
  Calls prog 311 #[.slice a 0 cap] w fun e w'=>e=.returned (.slice a 0 cap)∧w'=w:=Any.slices_Compact_string_empty Tryz.lays194 a cap w
open Go.RowKit Go.Sort in
theorem Tryz.slices_Sort_string_none(p:Option Addr)(cap:Nat)(w:World):
  Calls prog 310 #[.slice p 0 cap] w fun e w'=>e=.returned (.tuple #[])∧w'=w:=Any.slices_Sort_string_none Tryz.lays190 p cap w
end
end Go.Proofs
