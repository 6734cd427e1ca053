/- Contracts that the proof of E3 uses. No condition beyond those in each theorem. -/
import Derived.Test.YtamgdmiopinidaaGreatDoorSlE31
import Derived.Laws.IdiomCopy
import Derived.Lib.SliceRun
import Derived.RegionTactic
set_option linter.unusedVariables false
set_option linter.unusedSimpArgs false
set_option maxHeartbeats 8000000
set_option maxRecDepth 100000
namespace Go.Proofs.YtamgdmiopinidaaGreatDoor
open Go.RowKit
section
variable {w w':World} {B size n:Nat} {xs:List Value}
theorem Sl.cut{A:Option Addr}{c:Nat}(h:Sl w B size (.slice A n c) n xs){a b:Nat}(hab:a≤b)(hb:b≤n) :
  Sl w B size (.slice (if c=a then A else A.map (·.add (a * size))) (b - a) (c - a)) (b - a) ((xs.drop (a * size)).take ((b - a) * size)):=by
 obtain⟨A',c',e,hl,hc,hm,hr⟩:=h
 cases e
 refine⟨_,_,rfl,?_,by omega,by unfold maxLen at *;omega,fun hn=>?_⟩
 ·rw[List.length_take,List.length_drop,hl]
  have h1:(b - a) * size≤(n - a) * size:=Nat.mul_le_mul_right _ (by omega)
  have h2:n * size - a * size=(n - a) * size:=(Nat.sub_mul n a size).symm
  omega
 ·obtain⟨g,off,rfl,hg,hcell⟩:=hr (by omega)
  rw[if_neg (by omega)]
  refine⟨g,off+a * size,?_,hg,fun j u hu=>?_⟩
  ·show some ((⟨g,off,none⟩:Addr).add (a * size))=_
   unfold Addr.add
   split
   ·have e0:a * size=0:=by assumption
    rw[e0];rfl
   ·rfl
  ·rw[List.getElem?_take] at hu
   split at hu
   ·rw[List.getElem?_drop] at hu
    rw[Nat.add_assoc]
    exact hcell _ u hu
   ·cases hu
end
section
variable {P:Program} (w:World)
theorem zae(base:Nat)(t ty e:TypeId)(i:TypeInfo)(size:Nat)(ht:P.underlying t=some (.slice e))(hi:P.info? e=some i)
  (v:Value) (n:Nat) (xs:List Value) (hown:w.ownsRow base e size v n xs) (c:Nat):(Builtin.append_ #[t,t] ty #[v,.slice none 0 c]).run P w=.ok v w:=by
 rcases hown.2 with⟨rfl,rfl⟩|⟨g,cap,cur,rfl,_,_,hnc,_⟩
 ·simp[Builtin.append_,run_underlying ht,sizeOf,typeInfo,hi,Builtin.lenOf,Builtin.firstCells]
 ·simp[Builtin.append_,run_underlying ht,sizeOf,typeInfo,hi,Builtin.lenOf,Builtin.firstCells,hnc,storeCells]
theorem z9f(base:Nat)(t ty e:TypeId)(i:TypeInfo)(z:Value)(size bytes:Nat)(ht:P.underlying t=some (.slice e))(hi:P.info? e=some i)(hz:i.zero=some z)
  (hsize:i.size=size) (hby:i.bytes=bytes) (hzs:z.cells.size=size) (hsz:0 < size)
  (v:Value) (n:Nat) (xs:List Value) (hown:w.ownsRow base e size v n xs)
  (B:Nat) (x:Value) (m:Nat) (news:List Value) (hr:Sl w B size x m news) (h1:∀u∈news,u.oneCell'=true)
  (h63:n+m≤maxLen) (hbytes:(n+m) * bytes≤140737488355328) (hbase:base≤w.heap.size) :
  ∃v' w',(Builtin.append_ #[t,t] ty #[v,x]).run P w=.ok v' w'∧w'.ownsRow base e size v' (n+m) (xs++news)∧w.grownBy w' v.ownBlock ∧
   (v'.ownBlock=v.ownBlock∨v'.ownBlock=some w.heap.size):=by
 obtain⟨A,c,rfl,hl,hc,hm,hcell⟩:=hr
 rcases A with _|ad
 ·have h0:m=0:=by
   rcases Nat.eq_zero_or_pos m with h0|h0
   ·exact h0
   ·obtain⟨_,_,h,_⟩:=hcell h0
    cases h
  subst h0
  have hn:news=[]:=List.eq_nil_of_length_eq_zero (by simpa using hl)
  subst hn
  exact⟨v,w,zae w base t ty e i size ht hi v n xs hown c,by simpa using hown,⟨rfl,rfl,rfl,Nat.le_refl _,fun _ _ _=>rfl⟩,.inl rfl⟩
 ·have hcells:∀j u,news[j]? = some u→w.cell? (ad.add j)=some u:=by
   intro j u hu
   rcases Nat.eq_zero_or_pos m with h0|h0
   ·subst h0
    have hn:news=[]:=List.eq_nil_of_length_eq_zero (by simpa using hl)
    subst hn
    simp at hu
   ·obtain⟨g,off,h,_,hc⟩:=hcell h0
    injection h with h
    subst h
    have:=hc j u hu
    unfold Addr.add
    split
    ·have e0:j=0:=by assumption
     subst e0;exact this
    ·exact this
  obtain⟨v',w',hrun,h2,h3,_,h5⟩:=run_append_own_at (P:=P) w base t ty e i z size bytes ht hi hz hsize hby hzs hsz v n xs hown ad m c news hl hcells h1 h63 hbytes hbase
  exact⟨v',w',hrun,h2,h3,h5⟩
theorem zbc{o:Oper}{a:Act}{K:Act→World→Prop}{Q:Exit→Act→World→Prop}(s x:Operand)(t:TypeId)
  (ho:o.op=.call { callee:=.builtin .append,args:=#[s,x],argTypes:=#[t,t] })
  (base:Nat) (e:TypeId) (i:TypeInfo) (z:Value) (size bytes:Nat) (ht:P.underlying t=some (.slice e)) (hi:P.info? e=some i) (hz:i.zero=some z)
  (hsize:i.size=size) (hby:i.bytes=bytes) (hzs:z.cells.size=size) (hsz:0 < size)
  (v:Value) (n:Nat) (xs:List Value) (hs:a.eval s=v) (hown:w.ownsRow base e size v n xs)
  (B:Nat) (vx:Value) (m:Nat) (news:List Value) (hx:a.eval x=vx) (hr:Sl w B size vx m news) (h1:∀u∈news,u.oneCell'=true)
  (h63:n+m≤maxLen) (hbytes:(n+m) * bytes≤140737488355328) (hbase:base≤w.heap.size)
  (h:∀v' w',w'.ownsRow base e size v' (n+m) (xs++news)→w.grownBy w' v.ownBlock→(v'.ownBlock=v.ownBlock∨v'.ownBlock=some w.heap.size)→K (a.put o.dst v') w'):o.wp P a w K Q:=by
 obtain⟨v',w',hrun,h2,h3,h4⟩:=z9f (P:=P) w base t o.type e i z size bytes ht hi hz hsize hby hzs hsz v n xs hown B vx m news hr h1 h63 hbytes hbase
 unfold Oper.wp execOp
 simp only[ho,resolve,invoke,builtin,Sem.run_bind,Sem.run_pure,Result.andThen_ok,List.map_toArray,List.map_cons,List.map_nil,hs,hx,hrun]
 exact h v' w' h2 h3 h4
theorem z0i{ops:Array Oper}{rest:List Oper}{o:Oper}{a:Act}{Q:Exit→Act→World→Prop}(hgd:o.guard=none)(s x:Operand)(t:TypeId)
  (ho:o.op=.call { callee:=.builtin .append,args:=#[s,x],argTypes:=#[t,t] })
  (base:Nat) (e:TypeId) (i:TypeInfo) (z:Value) (size bytes:Nat) (ht:P.underlying t=some (.slice e)) (hi:P.info? e=some i) (hz:i.zero=some z)
  (hsize:i.size=size) (hby:i.bytes=bytes) (hzs:z.cells.size=size) (hsz:0 < size)
  (v:Value) (n:Nat) (xs:List Value) (hs:a.eval s=v) (hown:w.ownsRow base e size v n xs)
  (B:Nat) (vx:Value) (m:Nat) (news:List Value) (hx:a.eval x=vx) (hr:Sl w B size vx m news) (h1:∀u∈news,u.oneCell'=true)
  (h63:n+m≤maxLen) (hbytes:(n+m) * bytes≤140737488355328) (hbase:base≤w.heap.size)
  (h:∀v' w',w'.ownsRow base e size v' (n+m) (xs++news)→w.grownBy w' v.ownBlock→(v'.ownBlock=v.ownBlock∨v'.ownBlock=some w.heap.size)→wpList P ops Q rest (a.put o.dst v') w'):wpList P ops Q (o :: rest) a w:=
 wpList_plain hgd fun _ hK=>zbc w s x t ho base e i z size bytes ht hi hz hsize hby hzs hsz v n xs hs hown B vx m news hx hr h1 h63 hbytes hbase fun v' w' h2 h3 h4=>hK _ _ (h v' w' h2 h3 h4)
theorem z8d{ops:Array Oper}{o:Oper}{a:Act}{K:Act→World→Prop}{Q:Exit→Act→World→Prop}{E:Prop}(hgd:o.guard=none)(s x:Operand)(t:TypeId)
  (ho:o.op=.call { callee:=.builtin .append,args:=#[s,x],argTypes:=#[t,t] })
  (base:Nat) (e:TypeId) (i:TypeInfo) (z:Value) (size bytes:Nat) (ht:P.underlying t=some (.slice e)) (hi:P.info? e=some i) (hz:i.zero=some z)
  (hsize:i.size=size) (hby:i.bytes=bytes) (hzs:z.cells.size=size) (hsz:0 < size)
  (v:Value) (n:Nat) (xs:List Value) (hs:a.eval s=v) (hown:w.ownsRow base e size v n xs)
  (B:Nat) (vx:Value) (m:Nat) (news:List Value) (hx:a.eval x=vx) (hr:Sl w B size vx m news) (h1:∀u∈news,u.oneCell'=true)
  (h63:n+m≤maxLen) (hbytes:(n+m) * bytes≤140737488355328) (hbase:base≤w.heap.size)
  (h:∀v' w',w'.ownsRow base e size v' (n+m) (xs++news)→w.grownBy w' v.ownBlock→(v'.ownBlock=v.ownBlock∨v'.ownBlock=some w.heap.size)→K (a.put o.dst v') w') :
  if Region.wanted o (yielded ops a.tmps)=true then Oper.wp P o a w K Q else E:=by
 have hw:Region.wanted o (yielded ops a.tmps)=true:=by simp[Region.wanted,hgd]
 rw[if_pos hw]
 exact zbc w s x t ho base e i z size bytes ht hi hz hsize hby hzs hsz v n xs hs hown B vx m news hx hr h1 h63 hbytes hbase h
end
def z7h(T size n:Nat)(xs:List Value)(w:World)(e:Ending)(w':World):Prop:=∃v,e=.returned v∧w'.ownsRow w.heap.size T size v n xs∧Fr [] w w'
theorem z06{w:World}{base e size n:Nat}{v:Value}{xs:List Value}(h:w.ownsRow base e size v n xs):∃A c,v=.slice A n c∧(A=none∨∃g,A=some ⟨g,0,none⟩)∧n≤c∧c≤maxLen:=by
 rcases h.2 with⟨rfl,rfl⟩|⟨g,cap,cur,hv,_,_,h1,h2,_⟩
 ·exact⟨none,0,rfl,.inl rfl,Nat.le_refl _,Nat.zero_le _⟩
 ·exact⟨_,cap,hv,.inr ⟨g,rfl⟩,h1,h2⟩
theorem z3f(l:List ByteArray):∀u∈z03 l,u.oneCell'=true:=by
 intro u hu
 simp[z03] at hu
 obtain⟨s,_,rfl⟩:=hu
 rfl
theorem z9q(l:List (ByteArray×ByteArray)):∀u∈z0e l,u.oneCell'=true:=by
 intro u hu
 simp[z0e] at hu
 obtain⟨a,b,_,h⟩:=hu
 rcases h with rfl|rfl <;> rfl
theorem z52(l:List (Int×ByteArray)):∀u∈z08 l,u.oneCell'=true:=by
 intro u hu
 simp[z08] at hu
 obtain⟨a,b,_,h⟩:=hu
 rcases h with rfl|rfl <;> rfl
theorem z4y(a b:List ByteArray):z03 (a++b)=z03 a++z03 b:=by simp[z03]
theorem z6q(a b:List (ByteArray×ByteArray)):z0e (a++b)=z0e a++z0e b:=by simp[z0e]
theorem z3g(a b:List (Int×ByteArray)):z08 (a++b)=z08 a++z08 b:=by simp[z08]
section
variable {w w':World} {g t base e k n cap:Nat} {cs xs:List Value}
theorem z16:∀(vs:List Value) (o:Nat) (w:World) (cs:List Value),Whole w g t cs→o+vs.length≤cs.length→Whole (w.setCells g o vs) g t (cs.take o++vs++cs.drop (o+vs.length))
 | [],o,w,cs,h,_=>by
  have:cs.take o++[]++cs.drop (o+([]:List Value).length)=cs:=by simp
  rw[this];exact h
 | v :: r,o,w,cs,h,hl=>by
  have hl':o+(r.length+1)≤cs.length:=by simpa using hl
  have ih:=z16 r (o+1) _ _ (h.set_ o v) (by simp;omega)
  have e:(cs.set o v).take (o+1)++r++(cs.set o v).drop (o+1+r.length)=cs.take o++v :: r++cs.drop (o+(v :: r).length):=by
   have h1:(cs.set o v).take (o+1)=cs.take o++[v]:=by
    rw[List.set_eq_take_append_cons_drop,if_pos (by omega)]
    rw[show o+1=(cs.take o).length+1 by rw[List.length_take];omega,List.take_length_add_append]
    simp
   have h2:(cs.set o v).drop (o+1+r.length)=cs.drop (o+(v :: r).length):=by
    rw[List.drop_set_of_lt (by omega)]
    simp only[List.length_cons]
    rw[show o+1+r.length=o+(r.length+1) by omega]
   rw[h1,h2]
   simp
  rw[e] at ih
  exact ih
theorem z09:∀(vs:List Value) (o:Nat) (w:World),w.grownBy (w.setCells g o vs) (some g)
 | [],o,w=>⟨rfl,rfl,rfl,Nat.le_refl _,fun _ _ _=>rfl⟩
 | v :: r,o,w=>by
  have ih:=z09 r (o+1) (w.setCell ⟨g,o,none⟩ v)
  refine⟨ih.os,ih.tape,ih.output,by have:=ih.size;rw[show(w.setCell ⟨g,o,none⟩ v).heap.size=w.heap.size by simp[World.setCell]] at this;exact this,fun j hj hne=>?_⟩
  have h1:=ih.block j (by simpa[World.setCell] using hj) hne
  exact h1.trans (Below.heap_setCell w ⟨g,o,none⟩ v j (fun e=>hne (by simp[e])))
theorem z24{r:Option Nat}(h:w.drew.grownBy w' r):w.grownBy w' r:=⟨h.os,h.tape,h.output,h.size,h.block⟩
theorem z84{r:Option Nat}(h:w.grownBy w' r):w.grownBy w'.drew r:=⟨h.os,h.tape,h.output,h.size,h.block⟩
theorem z7y(w:World)(r:Option Nat):w.grownBy w r:=⟨rfl,rfl,rfl,Nat.le_refl _,fun _ _ _=>rfl⟩
theorem z28(h:w.ownsRow base e k (.slice (some ⟨g,0,none⟩) n cap) n xs):∃cur,Whole w g e cur∧cur.length=cap * k∧cur.take (n * k)=xs∧base≤g∧n≤cap∧cap≤maxLen∧xs.length=n * k:=by
 rcases h.2 with⟨h',_⟩|⟨g',cap',cur,h',hb,hg,hnc,hcm,hcs,ht⟩
 ·cases h'
 ·cases h'
  exact⟨cur.toList,by unfold Whole;simpa using hg,by simpa using hcs,ht,hb,hnc,hcm,h.1⟩
theorem z34{cur:List Value}(hw:Whole w g e cur)(hl:cur.length=cap * k)(hb:base≤g)(hn:n≤cap)(hm:cap≤maxLen):w.ownsRow base e k (.slice (some ⟨g,0,none⟩) n cap) n (cur.take (n * k)):=by
 refine⟨?_,.inr ⟨g,cap,cur.toArray,rfl,hb,hw,hn,hm,by simpa using hl,by simp⟩⟩
 rw[List.length_take,hl]
 have:n * k≤cap * k:=Nat.mul_le_mul_right _ hn
 omega
theorem z0k(h:Whole w g t cs){o m:Nat}(ho:o+m≤cs.length):∀j,j < m→(w.cell? ⟨g,o+j,none⟩).isSome=true∧w.frozen? ⟨g,o+j,none⟩=false:=by
 intro j hj
 refine⟨?_,h.frozen _⟩
 rw[h.cell,List.getElem?_eq_getElem (by omega)]
 rfl
section
variable {P:Program}
theorem z3j(w:World)(t e ty:TypeId)(z:Value)(ht:P.underlying t=some (.slice e))(hv:∀w,(zeroValue e).run P w=.ok z w)(h1:∀u∈z.cells.toList,u.oneCell'=true)(b o n c:Nat)(hn:0 < n)
  (hc:∀j,j < n * z.cells.size→(w.cell? ⟨b,o+j,none⟩).isSome=true∧w.frozen? ⟨b,o+j,none⟩=false) :
  (Builtin.clear_ #[t] ty #[.slice (some ⟨b,o,none⟩) n c]).run P w=.ok (.tuple #[]) (w.setCells b o (Builtin.zeroCells z.cells n).toList):=by
 have hl:(Builtin.zeroCells z.cells n).toList.length=n * z.cells.size:=by simp[Builtin.zeroCells]
 have hst:=run_storeCells_cells (P:=P) b o (Builtin.zeroCells z.cells n).toList 0 w (by rw[hl];simpa using fun j hj=>(hc j hj).1) (by rw[hl];simpa using fun j hj=>(hc j hj).2) (by
  intro v hv'
  simp[Builtin.zeroCells] at hv'
  obtain⟨i,hi,rfl⟩:=hv'
  have hpos:0 < z.cells.size:=by
   rcases Nat.eq_zero_or_pos z.cells.size with h0|h0
   ·rw[h0] at hi;omega
   ·exact h0
  rw[getElem!_pos z.cells (i % z.cells.size) (Nat.mod_lt _ hpos)]
  exact h1 _ (by simp))
 simp only[Nat.add_zero] at hst
 obtain⟨m,rfl⟩:∃m,n=m+1:=⟨n - 1,by omega⟩
 simp[Builtin.clear_,run_underlying ht,hv,hst]
end
theorem zig{i j:Nat}{zs:List Value}(h:w.ownsRow base e k (.slice (some ⟨g,0,none⟩) n cap) n xs)(hij:i < j)(hj:j≤n)(hz:zs.length=(j - i) * k) :
  ∃cur,Whole (w.setCells g (i * k) (xs.drop (j * k))) g e cur∧cur.length=cap * k ∧
   ((w.setCells g (i * k) (xs.drop (j * k))).setCells g ((i+(n - j)) * k) zs).ownsRow base e k (.slice (some ⟨g,0,none⟩) (i+(n - j)) cap) (i+(n - j)) (xs.take (i * k)++xs.drop (j * k)):=by
 obtain⟨cur,hw,hl,ht,hb,hn,hm,hxl⟩:=z28 h
 have hdl:(xs.drop (j * k)).length=(n - j) * k:=by rw[List.length_drop,hxl,Nat.sub_mul]
 have e1:i * k+(n - j) * k=(i+(n - j)) * k:=(Nat.add_mul _ _ _).symm
 have b1:(i+(n - j)) * k≤cap * k:=Nat.mul_le_mul_right _ (by omega)
 have e2:(i+(n - j)) * k+(j - i) * k=n * k:=by rw[←Nat.add_mul];congr 1;omega
 have b2:n * k≤cap * k:=Nat.mul_le_mul_right _ hn
 have W1:=z16 (xs.drop (j * k)) (i * k) w cur hw (by rw[hdl,hl,e1];exact b1)
 have l1:(cur.take (i * k)++xs.drop (j * k)++cur.drop (i * k+(xs.drop (j * k)).length)).length=cap * k:=by
  simp only[List.length_append,List.length_take,List.length_drop,hl] at hdl ⊢
  omega
 refine⟨_,W1,l1,?_⟩
 have W2:=z16 zs ((i+(n - j)) * k) _ _ W1 (by rw[l1,hz];omega)
 have l2:∀c1:List Value,c1.length=cap * k→(c1.take ((i+(n - j)) * k)++zs++c1.drop ((i+(n - j)) * k+zs.length)).length=cap * k:=by
  intro c1 hc1
  simp only[List.length_append,List.length_take,List.length_drop,hz,hc1]
  omega
 have:=z34 (cap:=cap) (k:=k) (n:=i+(n - j)) (base:=base) W2 (l2 _ l1) hb (by omega) hm
 have e3:List.take ((i+(n - j)) * k) ((cur.take (i * k)++xs.drop (j * k)++cur.drop (i * k+(xs.drop (j * k)).length)).take ((i+(n - j)) * k)++zs++(cur.take (i * k)++xs.drop (j * k)++cur.drop (i * k+(xs.drop (j * k)).length)).drop ((i+(n - j)) * k+zs.length))=xs.take (i * k)++xs.drop (j * k):=by
  have e4:(cur.take (i * k)++xs.drop (j * k)).length=(i+(n - j)) * k:=by
   rw[List.length_append,hdl,List.length_take,hl];omega
  rw[List.append_assoc (cur.take _),←List.append_assoc (cur.take (i * k))]
  rw[List.take_append_of_le_length (l₁:=cur.take (i * k)++xs.drop (j * k)) (by omega)]
  rw[List.take_of_length_le (l:=cur.take (i * k)++xs.drop (j * k)) (by omega)]
  rw[List.append_assoc,List.take_append_of_le_length (by omega),List.take_of_length_le (by omega)]
  congr 1
  rw[←ht,List.take_take,Nat.min_eq_left (by have:=Nat.mul_le_mul_right k (show i≤n by omega);omega)]
 rw[e3] at this
 exact this
end
end Go.Proofs.YtamgdmiopinidaaGreatDoor
namespace Go.Proofs.YtamgdmiopinidaaGreatDoor
structure Kept{α:Type}(p:α→Bool)(l d:List α)(i j:Nat):Prop where
 len:d.length=l.length
 ahead:d.take i=(l.take j).filter fun x=>!p x
 behind:∀t,j≤t→d[t]? = l[t]?
 lt:i < j
 le:j≤l.length
theorem Kept.start{α:Type}{p:α→Bool}{l:List α}{k:Nat}{s:α}(h:∀(j:Nat) t,j < k→l[j]? = some t→p t=false)(hk:l[k]? = some s)(hs:p s=true):Kept p l l k (k+1):=by
 have hlt:k < l.length:=(List.getElem?_eq_some_iff.1 hk).1
 refine⟨rfl,?_,fun _ _=>rfl,by omega,by omega⟩
 rw[List.take_add_one,hk,Option.toList_some,List.filter_append,List.filter_eq_self.2]
 ·simp[hs]
 ·intro a ha
  obtain⟨j,hj⟩:=List.getElem?_of_mem ha
  rw[List.getElem?_take] at hj
  split at hj
  ·rw[h j a (by assumption) hj];rfl
  ·cases hj
theorem Kept.keep{α:Type}{p:α→Bool}{l d:List α}{i j:Nat}{s:α}(h:Kept p l d i j)(hj:l[j]? = some s)(hs:p s=false):Kept p l (d.set i s) (i+1) (j+1):=by
 have hlt:j < l.length:=(List.getElem?_eq_some_iff.1 hj).1
 have:=h.lt
 have:=h.len
 refine⟨by simp[h.len],?_,fun t ht=>?_,by omega,by omega⟩
 ·rw[List.take_add_one,List.getElem?_set_self (by omega),Option.toList_some,List.take_set_of_le (Nat.le_refl _),h.ahead,List.take_add_one,hj,Option.toList_some,List.filter_append]
  simp[hs]
 ·rw[List.getElem?_set_ne (by omega)]
  exact h.behind t (by omega)
theorem Kept.skip{α:Type}{p:α→Bool}{l d:List α}{i j:Nat}{s:α}(h:Kept p l d i j)(hj:l[j]? = some s)(hs:p s=true):Kept p l d i (j+1):=by
 have hlt:j < l.length:=(List.getElem?_eq_some_iff.1 hj).1
 have:=h.lt
 refine⟨h.len,?_,fun t ht=>h.behind t (by omega),by omega,by omega⟩
 rw[h.ahead,List.take_add_one,hj,Option.toList_some,List.filter_append]
 simp[hs]
theorem Kept.done{α:Type}{p:α→Bool}{l d:List α}{i:Nat}(h:Kept p l d i l.length):d.take i=l.filter fun x=>!p x:=by
 have:=h.ahead
 rwa[List.take_length] at this
theorem z6s{α:Type}(p:α→Bool)(l:List α):(z3c p l=-1∧(l.filter fun x=>!p x)=l)∨∃(k:Nat) (s:α),z3c p l=k∧k < l.length∧Kept p l l k (k+1):=by
 cases hf:l.findIdx? p with
 | none=>
  refine .inl ⟨by unfold z3c;rw[hf],?_⟩
  rw[List.filter_eq_self]
  rw[List.findIdx?_eq_none_iff] at hf
  intro a ha
  simp[hf a ha]
 | some k=>
  rw[List.findIdx?_eq_some_iff_getElem] at hf
  obtain⟨hlt,he,hno⟩:=hf
  refine .inr ⟨k,l[k],?_,hlt,Kept.start (s:=l[k]) (fun j t hj ht=>?_) (List.getElem?_eq_getElem hlt) he⟩
  ·exact z2q (fun j t hj ht=>by
    have:=hno j hj
    obtain⟨hj',e⟩:=List.getElem?_eq_some_iff.1 ht
    rw[←e]
    simpa using this) (List.getElem?_eq_getElem hlt) he
  ·have:=hno j hj
   obtain⟨hj',e⟩:=List.getElem?_eq_some_iff.1 ht
   rw[←e]
   simpa using this
theorem z1x{P:Program}{f:FuncId}{fn:Func}{c:Code}(hf:P.funcs[f]? = some fn)(hn:(fn.name == "runtime.NumGoroutine")=false)(hb:fn.body=some c)(args:Array Value)(w:World):(callFunc f args).run P w=.ok (.enter f args) w:=by
 have h1:fn.name ≠ "runtime.NumGoroutine" := by simpa using hn
 simp[callFunc,hf,h1,hb,mark]
def z2l:Value→List Nat
 | .slice (some a) _ _=>[a.block]
 | _=>[]
theorem z47{w w':World}{v:Value}(h:w.grownBy w' v.ownBlock):Fr (z2l v) w w':=by
 refine(Fr.refl _ w).grown h (fun k hk=>.inl ?_)
 unfold Value.ownBlock at hk
 unfold z2l
 split at hk
 ·cases hk;simp
 ·cases hk
theorem z1j{w:World}{base e size n:Nat}{v:Value}{xs:List Value}(h:w.ownsRow base e size v n xs){k:Nat}(hk:k∈z2l v):base≤k:=by
 unfold z2l at hk
 split at hk
 ·simp at hk
  subst hk
  exact(h.lt _ rfl).1
 ·cases hk
theorem z01{w w':World}{S:List Nat}(h:Fr S w.drew w'):Fr S w w':=⟨h.os,h.tape,h.output,h.size,h.block⟩
theorem zau(l:List ByteArray)(i:Nat)(s:ByteArray):z03 (l.set i s)=(z03 l).set i (.string s):=by simp[z03,List.map_set]
theorem zar:∀(l:List (ByteArray×ByteArray)) (i:Nat) (s:ByteArray×ByteArray),z0e (l.set i s)=((z0e l).set (i * 2) (.string s.1)).set (i * 2+1) (.string s.2)
 | [],i,s=>rfl
 | q :: l,0,s=>rfl
 | q :: l,i+1,s=>by
  have ih:=zar l i s
  rw[List.set_cons_succ]
  show [Value.string q.1,.string q.2]++z0e (l.set i s)=(([Value.string q.1,.string q.2]++z0e l).set ((i+1) * 2) _).set ((i+1) * 2+1) _
  rw[ih,show(i+1) * 2=i * 2+1+1 by omega]
  rfl
theorem zdc:∀(l:List (Int×ByteArray)) (i:Nat) (s:Int×ByteArray),z08 (l.set i s)=((z08 l).set (i * 2) (.int .i64 s.1)).set (i * 2+1) (.string s.2)
 | [],i,s=>rfl
 | q :: l,0,s=>rfl
 | q :: l,i+1,s=>by
  have ih:=zdc l i s
  rw[List.set_cons_succ]
  show [Value.int .i64 q.1,.string q.2]++z08 (l.set i s)=(([Value.int .i64 q.1,.string q.2]++z08 l).set ((i+1) * 2) _).set ((i+1) * 2+1) _
  rw[ih,show(i+1) * 2=i * 2+1+1 by omega]
  rfl
theorem z6v:∀(l:List (ByteArray×ByteArray)) (i:Nat),(z0e l).take (i * 2)=z0e (l.take i)
 | [],i=>by simp[z0e]
 | q :: l,0=>rfl
 | q :: l,i+1=>by
  have ih:=z6v l i
  rw[List.take_succ_cons,show(i+1) * 2=i * 2+1+1 by omega]
  show([Value.string q.1,.string q.2]++z0e l).take (i * 2+1+1)=[Value.string q.1,.string q.2]++z0e (l.take i)
  rw[←ih]
  rfl
theorem z3m:∀(l:List (Int×ByteArray)) (i:Nat),(z08 l).take (i * 2)=z08 (l.take i)
 | [],i=>by simp[z08]
 | q :: l,0=>rfl
 | q :: l,i+1=>by
  have ih:=z3m l i
  rw[List.take_succ_cons,show(i+1) * 2=i * 2+1+1 by omega]
  show([Value.int .i64 q.1,.string q.2]++z08 l).take (i * 2+1+1)=[Value.int .i64 q.1,.string q.2]++z08 (l.take i)
  rw[←ih]
  rfl
theorem zjw(l:List ByteArray)(i:Nat):(z03 l).take (i * 1)=z03 (l.take i):=by simp[z03,List.map_take]
end Go.Proofs.YtamgdmiopinidaaGreatDoor
