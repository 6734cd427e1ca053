/- Contracts; no condition but each theorem's own. -/
import Derived.Test.YtmkhmejempcimaaGreatDoorSlU1
import Derived.Test.YtmkhmejempcimaaGreatDoorSlU2
import Derived.Defers
import Derived.Laws.IdiomCopy
import Derived.Laws.ResultCell
import Derived.Lib.ConvBytes
import Derived.Lib.SliceRun
import Derived.Recover
import Derived.RegionTactic
set_option linter.unusedVariables false
set_option linter.unusedSimpArgs false
set_option maxHeartbeats 8000000
set_option maxRecDepth 100000
namespace Go.Proofs.YtmkhmejempcimaaGreatDoor
open Lib (hid)
open Go.Proofs.Tryz (prog)
theorem zja:∀a:List UInt8,Lib.compareBytes a a=0
 | []=>rfl
 | x :: r=>by
  show(if x < x then -1 else if x < x then 1 else Lib.compareBytes r r)=0;rw[if_neg (UInt8.lt_irrefl x),if_neg (UInt8.lt_irrefl x),zja r]
theorem zpf:∀a b:List UInt8,Lib.compareBytes a b=0→a=b
 | [],[],_=>rfl
 | [],y :: s,h=>by cases h
 | x :: r,[],h=>by cases h
 | x :: r,y :: s,h=>by
  have h':(if x < y then -1 else if y < x then 1 else Lib.compareBytes r s)=(0:Int):=h;by_cases h1:x < y
  ·rw[if_pos h1] at h';cases h'
  ·rw[if_neg h1] at h';by_cases h2:y < x
   ·rw[if_pos h2] at h';cases h'
   ·rw[if_neg h2] at h'
    have e:x=y:=by
     apply UInt8.toNat_inj.1;rw[UInt8.lt_iff_toNat_lt] at h1 h2;omega
    rw[e,zpf r s h']
theorem zhx:∀a b:List UInt8,Lib.compareBytes b a=- Lib.compareBytes a b
 | [],[]=>rfl
 | [],y :: s=>rfl
 | x :: r,[]=>rfl
 | x :: r,y :: s=>by
  show(if y < x then -1 else if x < y then 1 else Lib.compareBytes s r)=- (if x < y then -1 else if y < x then 1 else Lib.compareBytes r s);by_cases h1:x < y
  ·have h2:¬y < x:=by have:=UInt8.lt_iff_toNat_lt.1 h1;rw[UInt8.lt_iff_toNat_lt];omega
   rw[if_neg h2,if_pos h1,if_pos h1];rfl
  ·rw[if_neg h1,if_neg h1];by_cases h2:y < x
   ·rw[if_pos h2,if_pos h2]
   ·rw[if_neg h2,if_neg h2,zhx r s]
theorem zfd:∀a b c:List UInt8,Lib.compareBytes a b < 0→Lib.compareBytes b c < 0→Lib.compareBytes a c < 0
 | [],[],_,h,_=>by exact absurd h (by decide)
 | x :: r,[],_,h,_=>by exact absurd (show(1:Int) < 0 from h) (by decide)
 | _,y :: s,[],_,h=>by exact absurd (show(1:Int) < 0 from h) (by decide)
 | [],y :: s,z :: t,_,_=>by show(-1:Int) < 0;decide
 | x :: r,y :: s,z :: t,h1,h2=>by
  have h1':(if x < y then -1 else if y < x then 1 else Lib.compareBytes r s) < (0:Int):=h1;have h2':(if y < z then -1 else if z < y then 1 else Lib.compareBytes s t) < (0:Int):=h2;show(if x < z then -1 else if z < x then 1 else Lib.compareBytes r t) < (0:Int);simp only[UInt8.lt_iff_toNat_lt] at *;by_cases a1:x.toNat < y.toNat
  ·by_cases b1:y.toNat < z.toNat
   ·rw[if_pos (by omega)];decide
   ·by_cases b2:z.toNat < y.toNat
    ·rw[if_neg b1,if_pos b2] at h2';exact absurd h2' (by decide)
    ·rw[if_pos (by omega)];decide
  ·rw[if_neg a1] at h1';by_cases a2:y.toNat < x.toNat
   ·rw[if_pos a2] at h1';exact absurd h1' (by decide)
   ·rw[if_neg a2] at h1';by_cases b1:y.toNat < z.toNat
    ·rw[if_pos (by omega)];decide
    ·rw[if_neg b1] at h2';by_cases b2:z.toNat < y.toNat
     ·rw[if_pos b2] at h2';exact absurd h2' (by decide)
     ·rw[if_neg b2] at h2';rw[if_neg (by omega),if_neg (by omega)];exact zfd r s t h1' h2'
theorem z60(a:ByteArray):z36 a a=0:=zja _
theorem zcv{a b:ByteArray}(h:z36 a b=0):a=b:=by
 have:=zpf _ _ h;obtain⟨⟨a⟩⟩:=a;obtain⟨⟨b⟩⟩:=b;simp at this;subst this;rfl
theorem z88(a b:ByteArray):z36 b a=- z36 a b:=zhx _ _
theorem z3u{a b c:ByteArray}(h1:z36 a b < 0)(h2:z36 b c < 0):z36 a c < 0:=zfd _ _ _ h1 h2
theorem z6e{α:Type}{lt:α→α→Bool}(htr:∀a b c,lt a b=true→lt b c=true→lt a c=true):∀ {l:List α},rises lt l=true→∀ {i j:Nat} {a b:α},i < j→l[i]? = some a→l[j]? = some b→lt a b=true
 | [],_,i,j,a,b,_,h,_=>by simp at h
 | [x],_,i,j,a,b,hij,_,h=>by
  have:=(List.getElem?_eq_some_iff.1 h).1;simp at this;omega
 | x :: y :: r,h,i,j,a,b,hij,ha,hb=>by
  have h':(lt x y&&rises lt (y :: r))=true:=h;rw[Bool.and_eq_true] at h';obtain⟨j',rfl⟩:∃j',j=j'+1:=⟨j - 1,by omega⟩;rw[List.getElem?_cons_succ] at hb
  match i with
  | 0=>
   rw[List.getElem?_cons_zero] at ha;cases ha
   match j' with
   | 0=>rw[List.getElem?_cons_zero] at hb;cases hb;exact h'.1
   | j''+1=>exact htr _ _ _ h'.1 (z6e htr h'.2 (i:=0) (j:=j''+1) (by omega) rfl hb)
  | i'+1=>
   rw[List.getElem?_cons_succ] at ha;exact z6e htr h'.2 (i:=i') (j:=j') (by omega) ha hb
theorem z5z{α:Type}{lt:α→α→Bool}(htr:∀a b c,lt a b=true→lt b c=true→lt a c=true){l:List α}(h:rises lt l=true):l.Pairwise (fun a b=>lt a b=true):=by
 rw[List.pairwise_iff_getElem];intro i j hi hj hij;exact z6e htr h hij (List.getElem?_eq_getElem hi) (List.getElem?_eq_getElem hj)
theorem zfe{α:Type}{lt:α→α→Bool}:∀ {l:List α},(∀(i:Nat) a b,l[i]? = some a→l[i+1]? = some b→lt a b=true)→rises lt l=true
 | [],_=>rfl
 | [x],_=>rfl
 | x :: y :: r,h=>by
  show(lt x y&&rises lt (y :: r))=true;rw[Bool.and_eq_true];exact⟨h 0 x y rfl rfl,zfe fun i a b ha hb=>h (i+1) a b ha hb⟩
theorem z5x{α:Type}{lt:α→α→Bool}{l:List α}(h:l.Pairwise (fun a b=>lt a b=true)):rises lt l=true:=by
 apply zfe;intro i a b ha hb;obtain⟨hi,rfl⟩:=List.getElem?_eq_some_iff.1 ha;obtain⟨hj,rfl⟩:=List.getElem?_eq_some_iff.1 hb;exact List.pairwise_iff_getElem.1 h i (i+1) hi hj (Nat.lt_succ_self i)
section
variable {α:Type} (key:α→ByteArray)
def z1k(l:List α)(f:ByteArray):Nat:=(l.takeWhile fun q=>decide (z36 (key q) f < 0)).length
def z5e(l:List α)(f:ByteArray):Bool:=match l[z1k key l f]? with|some q=>decide (z36 (key q) f=0)|none=>false
def putK(l:List α)(p:α):List α:=if z5e key l (key p)=true then l.set (z1k key l (key p)) p else l.take (z1k key l (key p))++p :: l.drop (z1k key l (key p))
def ltK(a b:α):Bool:=decide (z36 (key a) (key b) < 0)
theorem z6j(l:List α)(f:ByteArray):z1k key l f≤l.length:=by
 unfold z1k;exact(List.takeWhile_sublist _).length_le
theorem z6q:∀ {l:List α} {f:ByteArray} {k:Nat} {q:α},k < z1k key l f→l[k]? = some q→z36 (key q) f < 0
 | [],f,k,q,h,hq=>by simp at hq
 | x :: r,f,k,q,h,hq=>by
  unfold z1k at h;rw[List.takeWhile_cons] at h;by_cases hx:z36 (key x) f < 0
  ·rw[if_pos (by simpa using hx)] at h
   match k with
   | 0=>rw[List.getElem?_cons_zero] at hq;cases hq;exact hx
   | k'+1=>
    rw[List.getElem?_cons_succ] at hq;exact z6q (l:=r) (k:=k') (by unfold z1k;simp at h;omega) hq
  ·rw[if_neg (by simpa using hx)] at h;simp at h
theorem z9x:∀ {l:List α} {f:ByteArray} {q:α},l[z1k key l f]? = some q→¬z36 (key q) f < 0
 | [],f,q,hq=>by simp at hq
 | x :: r,f,q,hq=>by
  unfold z1k at hq;rw[List.takeWhile_cons] at hq;by_cases hx:z36 (key x) f < 0
  ·rw[if_pos (by simpa using hx),List.length_cons,List.getElem?_cons_succ] at hq;exact z9x (l:=r) hq
  ·rw[if_neg (by simpa using hx)] at hq;simp at hq;rw[←hq];exact hx
theorem z4z(a b c:α)(h1:ltK key a b=true)(h2:ltK key b c=true):ltK key a c=true:=
 decide_eq_true (z3u (of_decide_eq_true h1) (of_decide_eq_true h2))
theorem ze9{l:List α}{f:ByteArray}{k:Nat}{q:α}(hr:rises (ltK key) l=true)(hk:z1k key l f≤k)(hq:l[k]? = some q):¬z36 (key q) f < 0:=by
 obtain⟨hlt,_⟩:=List.getElem?_eq_some_iff.1 hq;obtain⟨q0,h0⟩:∃q0,l[z1k key l f]? = some q0:=⟨_,List.getElem?_eq_getElem (by omega)⟩;have n0:=z9x key h0;rcases Nat.lt_or_ge (z1k key l f) k with h|h
 ·intro hlt;have:=of_decide_eq_true (z6e (z4z key) hr h h0 hq);exact n0 (z3u this hlt)
 ·have e:k=z1k key l f:=by omega
  rw[e,h0] at hq;cases hq;exact n0
theorem zn5{l:List α}{f:ByteArray}{k:Nat}{q:α}(hr:rises (ltK key) l=true)(hk:z1k key l f < k)(hq:l[k]? = some q):0 < z36 (key q) f:=by
 obtain⟨hlt,_⟩:=List.getElem?_eq_some_iff.1 hq;obtain⟨q0,h0⟩:∃q0,l[z1k key l f]? = some q0:=⟨_,List.getElem?_eq_getElem (by omega)⟩;have n0:=z9x key h0;have h1:=of_decide_eq_true (z6e (z4z key) hr hk h0 hq);have a1:=z88 (key q0) f;rcases Int.lt_trichotomy (z36 (key q) f) 0 with h|h|h
 ·exact absurd (z3u h1 h) n0
 ·rw[zcv h] at h1;exact absurd h1 n0
 ·exact h
theorem z2z{l:List α}{f:ByteArray}:z5e key l f=true↔∃q,l[z1k key l f]? = some q∧key q=f:=by
 unfold z5e;constructor
 ·intro h;split at h
  ·rename_i q hq;exact⟨q,hq,zcv (of_decide_eq_true h)⟩
  ·cases h
 ·rintro⟨q,hq,rfl⟩;rw[hq];exact decide_eq_true (z60 _)
theorem zex{l:List α}{k:Nat}{q:α}(hr:rises (ltK key) l=true)(hq:l[k]? = some q):z1k key l (key q)=k:=by
 rcases Nat.lt_trichotomy k (z1k key l (key q)) with h|h|h
 ·have:=z6q key h hq;rw[z60] at this;exact absurd this (by decide)
 ·exact h.symm
 ·have:=zn5 key hr h hq;rw[z60] at this;exact absurd this (by decide)
theorem zcr{l:List α}{k:Nat}{q:α}(hr:rises (ltK key) l=true)(hq:l[k]? = some q):z5e key l (key q)=true:=
 (z2z key).2 ⟨q,by rw[zex key hr hq];exact hq,rfl⟩
end
end Go.Proofs.YtmkhmejempcimaaGreatDoor
namespace Go.Proofs.YtmkhmejempcimaaGreatDoor
open Lib (hid)
open Go.Proofs.Tryz (prog)
open Go.RowKit
section
variable {w w':World} {B size n:Nat} {xs:List Value}
theorem Sl.cut{A:Option Addr}{c:Nat}(h:Sl w B size (.slice A n c) n xs){a b:Nat}(hab:a≤b)(hb:b≤n):
  Sl w B size (.slice (if c=a then A else A.map (·.add (a * size))) (b - a) (c - a)) (b - a) ((xs.drop (a * size)).take ((b - a) * size)):=by
 obtain⟨A',c',e,hl,hc,hm,hr⟩:=h;cases e;refine⟨_,_,rfl,?_,by omega,by unfold maxLen at *;omega,fun hn=>?_⟩
 ·rw[List.length_take,List.length_drop,hl];have h1:(b - a) * size≤(n - a) * size:=Nat.mul_le_mul_right _ (by omega);have h2:n * size - a * size=(n - a) * size:=(Nat.sub_mul n a size).symm;omega
 ·obtain⟨g,off,rfl,hg,hcell⟩:=hr (by omega);rw[if_neg (by omega)];refine⟨g,off+a * size,?_,hg,fun j u hu=>?_⟩
  ·show some ((⟨g,off,none⟩:Addr).add (a * size))=_;unfold Addr.add;split
   ·have e0:a * size=0:=by assumption
    rw[e0];rfl
   ·rfl
  ·rw[List.getElem?_take] at hu;split at hu
   ·rw[List.getElem?_drop] at hu;rw[Nat.add_assoc];exact hcell _ u hu
   ·cases hu
end
section
variable {P:Program} (w:World)
theorem z6w(base:Nat)(t ty e:TypeId)(i:TypeInfo)(size:Nat)(ht:P.underlying t=some (.slice e))(hi:P.info? e=some i)
  (v:Value) (n:Nat) (xs:List Value) (hown:w.ownsRow base e size v n xs) (c:Nat):(Builtin.append_ #[t,t] ty #[v,.slice none 0 c]).run P w=.ok v w:=by
 rcases hown.2 with⟨rfl,rfl⟩|⟨g,cap,cur,rfl,_,_,hnc,_⟩
 ·simp[Builtin.append_,run_underlying ht,sizeOf,typeInfo,hi,Builtin.lenOf,Builtin.firstCells]
 ·simp[Builtin.append_,run_underlying ht,sizeOf,typeInfo,hi,Builtin.lenOf,Builtin.firstCells,hnc,storeCells]
theorem z6c(base:Nat)(t ty e:TypeId)(i:TypeInfo)(z:Value)(size bytes:Nat)(ht:P.underlying t=some (.slice e))(hi:P.info? e=some i)(hz:i.zero=some z)
  (hsize:i.size=size) (hby:i.bytes=bytes) (hzs:z.cells.size=size) (hsz:0 < size)
  (v:Value) (n:Nat) (xs:List Value) (hown:w.ownsRow base e size v n xs)
  (B:Nat) (x:Value) (m:Nat) (news:List Value) (hr:Sl w B size x m news) (h1:∀u∈news,u.oneCell'=true)
  (h63:n+m≤maxLen) (hbytes:(n+m) * bytes≤140737488355328) (hbase:base≤w.heap.size):
  ∃v' w',(Builtin.append_ #[t,t] ty #[v,x]).run P w=.ok v' w'∧w'.ownsRow base e size v' (n+m) (xs++news)∧w.grownBy w' v.ownBlock ∧
   (v'.ownBlock=v.ownBlock∨v'.ownBlock=some w.heap.size):=by
 obtain⟨A,c,rfl,hl,hc,hm,hcell⟩:=hr;rcases A with _|ad
 ·have h0:m=0:=by
   rcases Nat.eq_zero_or_pos m with h0|h0
   ·exact h0
   ·obtain⟨_,_,h,_⟩:=hcell h0;cases h
  subst h0;have hn:news=[]:=List.eq_nil_of_length_eq_zero (by simpa using hl);subst hn;exact⟨v,w,z6w w base t ty e i size ht hi v n xs hown c,by simpa using hown,⟨rfl,rfl,rfl,Nat.le_refl _,fun _ _ _=>rfl⟩,.inl rfl⟩
 ·have hcells:∀j u,news[j]? = some u→w.cell? (ad.add j)=some u:=by
   intro j u hu;rcases Nat.eq_zero_or_pos m with h0|h0
   ·subst h0;have hn:news=[]:=List.eq_nil_of_length_eq_zero (by simpa using hl);subst hn;simp at hu
   ·obtain⟨g,off,h,_,hc⟩:=hcell h0;injection h with h
    subst h;have:=hc j u hu;unfold Addr.add;split
    ·have e0:j=0:=by assumption
     subst e0;exact this
    ·exact this
  obtain⟨v',w',hrun,h2,h3,_,h5⟩:=run_append_own_at (P:=P) w base t ty e i z size bytes ht hi hz hsize hby hzs hsz v n xs hown ad m c news hl hcells h1 h63 hbytes hbase;exact⟨v',w',hrun,h2,h3,h5⟩
theorem z79{o:Oper}{a:Act}{K:Act→World→Prop}{Q:Exit→Act→World→Prop}(s x:Operand)(t:TypeId)
  (ho:o.op=.call { callee:=.builtin .append,args:=#[s,x],argTypes:=#[t,t] })
  (base:Nat) (e:TypeId) (i:TypeInfo) (z:Value) (size bytes:Nat) (ht:P.underlying t=some (.slice e)) (hi:P.info? e=some i) (hz:i.zero=some z)
  (hsize:i.size=size) (hby:i.bytes=bytes) (hzs:z.cells.size=size) (hsz:0 < size)
  (v:Value) (n:Nat) (xs:List Value) (hs:a.eval s=v) (hown:w.ownsRow base e size v n xs)
  (B:Nat) (vx:Value) (m:Nat) (news:List Value) (hx:a.eval x=vx) (hr:Sl w B size vx m news) (h1:∀u∈news,u.oneCell'=true)
  (h63:n+m≤maxLen) (hbytes:(n+m) * bytes≤140737488355328) (hbase:base≤w.heap.size)
  (h:∀v' w',w'.ownsRow base e size v' (n+m) (xs++news)→w.grownBy w' v.ownBlock→(v'.ownBlock=v.ownBlock∨v'.ownBlock=some w.heap.size)→K (a.put o.dst v') w'):o.wp P a w K Q:=by
 obtain⟨v',w',hrun,h2,h3,h4⟩:=z6c (P:=P) w base t o.type e i z size bytes ht hi hz hsize hby hzs hsz v n xs hown B vx m news hr h1 h63 hbytes hbase;unfold Oper.wp execOp;simp only[ho,resolve,invoke,builtin,Sem.run_bind,Sem.run_pure,Result.andThen_ok,List.map_toArray,List.map_cons,List.map_nil,hs,hx,hrun];exact h v' w' h2 h3 h4
theorem z0b{ops:Array Oper}{rest:List Oper}{o:Oper}{a:Act}{Q:Exit→Act→World→Prop}(hgd:o.guard=none)(s x:Operand)(t:TypeId)
  (ho:o.op=.call { callee:=.builtin .append,args:=#[s,x],argTypes:=#[t,t] })
  (base:Nat) (e:TypeId) (i:TypeInfo) (z:Value) (size bytes:Nat) (ht:P.underlying t=some (.slice e)) (hi:P.info? e=some i) (hz:i.zero=some z)
  (hsize:i.size=size) (hby:i.bytes=bytes) (hzs:z.cells.size=size) (hsz:0 < size)
  (v:Value) (n:Nat) (xs:List Value) (hs:a.eval s=v) (hown:w.ownsRow base e size v n xs)
  (B:Nat) (vx:Value) (m:Nat) (news:List Value) (hx:a.eval x=vx) (hr:Sl w B size vx m news) (h1:∀u∈news,u.oneCell'=true)
  (h63:n+m≤maxLen) (hbytes:(n+m) * bytes≤140737488355328) (hbase:base≤w.heap.size)
  (h:∀v' w',w'.ownsRow base e size v' (n+m) (xs++news)→w.grownBy w' v.ownBlock→(v'.ownBlock=v.ownBlock∨v'.ownBlock=some w.heap.size)→wpList P ops Q rest (a.put o.dst v') w'):wpList P ops Q (o :: rest) a w:=
 wpList_plain hgd fun _ hK=>z79 w s x t ho base e i z size bytes ht hi hz hsize hby hzs hsz v n xs hs hown B vx m news hx hr h1 h63 hbytes hbase fun v' w' h2 h3 h4=>hK _ _ (h v' w' h2 h3 h4)
theorem z3r{ops:Array Oper}{o:Oper}{a:Act}{K:Act→World→Prop}{Q:Exit→Act→World→Prop}{E:Prop}(hgd:o.guard=none)(s x:Operand)(t:TypeId)
  (ho:o.op=.call { callee:=.builtin .append,args:=#[s,x],argTypes:=#[t,t] })
  (base:Nat) (e:TypeId) (i:TypeInfo) (z:Value) (size bytes:Nat) (ht:P.underlying t=some (.slice e)) (hi:P.info? e=some i) (hz:i.zero=some z)
  (hsize:i.size=size) (hby:i.bytes=bytes) (hzs:z.cells.size=size) (hsz:0 < size)
  (v:Value) (n:Nat) (xs:List Value) (hs:a.eval s=v) (hown:w.ownsRow base e size v n xs)
  (B:Nat) (vx:Value) (m:Nat) (news:List Value) (hx:a.eval x=vx) (hr:Sl w B size vx m news) (h1:∀u∈news,u.oneCell'=true)
  (h63:n+m≤maxLen) (hbytes:(n+m) * bytes≤140737488355328) (hbase:base≤w.heap.size)
  (h:∀v' w',w'.ownsRow base e size v' (n+m) (xs++news)→w.grownBy w' v.ownBlock→(v'.ownBlock=v.ownBlock∨v'.ownBlock=some w.heap.size)→K (a.put o.dst v') w'):
  if Region.wanted o (yielded ops a.tmps)=true then Oper.wp P o a w K Q else E:=by
 have hw:Region.wanted o (yielded ops a.tmps)=true:=by simp[Region.wanted,hgd]
 rw[if_pos hw];exact z79 w s x t ho base e i z size bytes ht hi hz hsize hby hzs hsz v n xs hs hown B vx m news hx hr h1 h63 hbytes hbase h
end
def z6u(T size n:Nat)(xs:List Value)(w:World)(e:Ending)(w':World):Prop:=∃v,e=.returned v∧w'.ownsRow w.heap.size T size v n xs∧Fr [] w w'
theorem z02{w:World}{base e size n:Nat}{v:Value}{xs:List Value}(h:w.ownsRow base e size v n xs):∃A c,v=.slice A n c∧(A=none∨∃g,A=some ⟨g,0,none⟩)∧n≤c∧c≤maxLen:=by
 rcases h.2 with⟨rfl,rfl⟩|⟨g,cap,cur,hv,_,_,h1,h2,_⟩
 ·exact⟨none,0,rfl,.inl rfl,Nat.le_refl _,Nat.zero_le _⟩
 ·exact⟨_,cap,hv,.inr ⟨g,rfl⟩,h1,h2⟩
theorem z3b(l:List ByteArray):∀u∈z04 l,u.oneCell'=true:=by
 intro u hu;simp[z04] at hu;obtain⟨s,_,rfl⟩:=hu;rfl
theorem zjx(l:List (ByteArray×ByteArray)):∀u∈z0t l,u.oneCell'=true:=by
 intro u hu;simp[z0t] at hu;obtain⟨a,b,_,h⟩:=hu;rcases h with rfl|rfl <;> rfl
theorem zgd(l:List (Int×ByteArray)):∀u∈z0h l,u.oneCell'=true:=by
 intro u hu;simp[z0h] at hu;obtain⟨a,b,_,h⟩:=hu;rcases h with rfl|rfl <;> rfl
theorem z4c(a b:List ByteArray):z04 (a++b)=z04 a++z04 b:=by simp[z04]
section
variable {w w':World} {g t base e k n cap:Nat} {cs xs:List Value}
theorem z0y:∀(vs:List Value) (o:Nat) (w:World) (cs:List Value),Whole w g t cs→o+vs.length≤cs.length→Whole (w.setCells g o vs) g t (cs.take o++vs++cs.drop (o+vs.length))
 | [],o,w,cs,h,_=>by
  have:cs.take o++[]++cs.drop (o+([]:List Value).length)=cs:=by simp
  rw[this];exact h
 | v :: r,o,w,cs,h,hl=>by
  have hl':o+(r.length+1)≤cs.length:=by simpa using hl
  have ih:=z0y r (o+1) _ _ (h.set_ o v) (by simp;omega)
  have e:(cs.set o v).take (o+1)++r++(cs.set o v).drop (o+1+r.length)=cs.take o++v :: r++cs.drop (o+(v :: r).length):=by
   have h1:(cs.set o v).take (o+1)=cs.take o++[v]:=by
    rw[List.set_eq_take_append_cons_drop,if_pos (by omega)];rw[show o+1=(cs.take o).length+1 by rw[List.length_take];omega,List.take_length_add_append];simp
   have h2:(cs.set o v).drop (o+1+r.length)=cs.drop (o+(v :: r).length):=by
    rw[List.drop_set_of_lt (by omega)];simp only[List.length_cons];rw[show o+1+r.length=o+(r.length+1) by omega]
   rw[h1,h2];simp
  rw[e] at ih;exact ih
theorem z0e:∀(vs:List Value) (o:Nat) (w:World),w.grownBy (w.setCells g o vs) (some g)
 | [],o,w=>⟨rfl,rfl,rfl,Nat.le_refl _,fun _ _ _=>rfl⟩
 | v :: r,o,w=>by
  have ih:=z0e r (o+1) (w.setCell ⟨g,o,none⟩ v);refine⟨ih.os,ih.tape,ih.output,by have:=ih.size;rw[show(w.setCell ⟨g,o,none⟩ v).heap.size=w.heap.size by simp[World.setCell]] at this;exact this,fun j hj hne=>?_⟩;have h1:=ih.block j (by simpa[World.setCell] using hj) hne;exact h1.trans (Below.heap_setCell w ⟨g,o,none⟩ v j (fun e=>hne (by simp[e])))
theorem z2b{r:Option Nat}(h:w.drew.grownBy w' r):w.grownBy w' r:=⟨h.os,h.tape,h.output,h.size,h.block⟩
theorem z9a{r:Option Nat}(h:w.grownBy w' r):w.grownBy w'.drew r:=⟨h.os,h.tape,h.output,h.size,h.block⟩
theorem z9d(w:World)(r:Option Nat):w.grownBy w r:=⟨rfl,rfl,rfl,Nat.le_refl _,fun _ _ _=>rfl⟩
theorem z1i(h:w.ownsRow base e k (.slice (some ⟨g,0,none⟩) n cap) n xs):∃cur,Whole w g e cur∧cur.length=cap * k∧cur.take (n * k)=xs∧base≤g∧n≤cap∧cap≤maxLen∧xs.length=n * k:=by
 rcases h.2 with⟨h',_⟩|⟨g',cap',cur,h',hb,hg,hnc,hcm,hcs,ht⟩
 ·cases h'
 ·cases h';exact⟨cur.toList,by unfold Whole;simpa using hg,by simpa using hcs,ht,hb,hnc,hcm,h.1⟩
theorem z1x{cur:List Value}(hw:Whole w g e cur)(hl:cur.length=cap * k)(hb:base≤g)(hn:n≤cap)(hm:cap≤maxLen):w.ownsRow base e k (.slice (some ⟨g,0,none⟩) n cap) n (cur.take (n * k)):=by
 refine⟨?_,.inr ⟨g,cap,cur.toArray,rfl,hb,hw,hn,hm,by simpa using hl,by simp⟩⟩;rw[List.length_take,hl];have:n * k≤cap * k:=Nat.mul_le_mul_right _ hn;omega
theorem z12(h:Whole w g t cs){o m:Nat}(ho:o+m≤cs.length):∀j,j < m→(w.cell? ⟨g,o+j,none⟩).isSome=true∧w.frozen? ⟨g,o+j,none⟩=false:=by
 intro j hj;refine⟨?_,h.frozen _⟩;rw[h.cell,List.getElem?_eq_getElem (by omega)];rfl
section
variable {P:Program}
theorem z4d(w:World)(t e ty:TypeId)(z:Value)(ht:P.underlying t=some (.slice e))(hv:∀w,(zeroValue e).run P w=.ok z w)(h1:∀u∈z.cells.toList,u.oneCell'=true)(b o n c:Nat)(hn:0 < n)
  (hc:∀j,j < n * z.cells.size→(w.cell? ⟨b,o+j,none⟩).isSome=true∧w.frozen? ⟨b,o+j,none⟩=false):
  (Builtin.clear_ #[t] ty #[.slice (some ⟨b,o,none⟩) n c]).run P w=.ok (.tuple #[]) (w.setCells b o (Builtin.zeroCells z.cells n).toList):=by
 have hl:(Builtin.zeroCells z.cells n).toList.length=n * z.cells.size:=by simp[Builtin.zeroCells]
 have hst:=run_storeCells_cells (P:=P) b o (Builtin.zeroCells z.cells n).toList 0 w (by rw[hl];simpa using fun j hj=>(hc j hj).1) (by rw[hl];simpa using fun j hj=>(hc j hj).2) (by
  intro v hv';simp[Builtin.zeroCells] at hv';obtain⟨i,hi,rfl⟩:=hv'
  have hpos:0 < z.cells.size:=by
   rcases Nat.eq_zero_or_pos z.cells.size with h0|h0
   ·rw[h0] at hi;omega
   ·exact h0
  rw[getElem!_pos z.cells (i % z.cells.size) (Nat.mod_lt _ hpos)];exact h1 _ (by simp))
 simp only[Nat.add_zero] at hst;obtain⟨m,rfl⟩:∃m,n=m+1:=⟨n - 1,by omega⟩;simp[Builtin.clear_,run_underlying ht,hv,hst]
end
theorem zct{i j:Nat}{zs:List Value}(h:w.ownsRow base e k (.slice (some ⟨g,0,none⟩) n cap) n xs)(hij:i < j)(hj:j≤n)(hz:zs.length=(j - i) * k):
  ∃cur,Whole (w.setCells g (i * k) (xs.drop (j * k))) g e cur∧cur.length=cap * k ∧
   ((w.setCells g (i * k) (xs.drop (j * k))).setCells g ((i+(n - j)) * k) zs).ownsRow base e k (.slice (some ⟨g,0,none⟩) (i+(n - j)) cap) (i+(n - j)) (xs.take (i * k)++xs.drop (j * k)):=by
 obtain⟨cur,hw,hl,ht,hb,hn,hm,hxl⟩:=z1i h;have hdl:(xs.drop (j * k)).length=(n - j) * k:=by rw[List.length_drop,hxl,Nat.sub_mul]
 have e1:i * k+(n - j) * k=(i+(n - j)) * k:=(Nat.add_mul _ _ _).symm;have b1:(i+(n - j)) * k≤cap * k:=Nat.mul_le_mul_right _ (by omega);have e2:(i+(n - j)) * k+(j - i) * k=n * k:=by rw[←Nat.add_mul];congr 1;omega
 have b2:n * k≤cap * k:=Nat.mul_le_mul_right _ hn;have W1:=z0y (xs.drop (j * k)) (i * k) w cur hw (by rw[hdl,hl,e1];exact b1)
 have l1:(cur.take (i * k)++xs.drop (j * k)++cur.drop (i * k+(xs.drop (j * k)).length)).length=cap * k:=by
  simp only[List.length_append,List.length_take,List.length_drop,hl] at hdl ⊢;omega
 refine⟨_,W1,l1,?_⟩;have W2:=z0y zs ((i+(n - j)) * k) _ _ W1 (by rw[l1,hz];omega)
 have l2:∀c1:List Value,c1.length=cap * k→(c1.take ((i+(n - j)) * k)++zs++c1.drop ((i+(n - j)) * k+zs.length)).length=cap * k:=by
  intro c1 hc1;simp only[List.length_append,List.length_take,List.length_drop,hz,hc1];omega
 have:=z1x (cap:=cap) (k:=k) (n:=i+(n - j)) (base:=base) W2 (l2 _ l1) hb (by omega) hm
 have e3:List.take ((i+(n - j)) * k) ((cur.take (i * k)++xs.drop (j * k)++cur.drop (i * k+(xs.drop (j * k)).length)).take ((i+(n - j)) * k)++zs++(cur.take (i * k)++xs.drop (j * k)++cur.drop (i * k+(xs.drop (j * k)).length)).drop ((i+(n - j)) * k+zs.length))=xs.take (i * k)++xs.drop (j * k):=by
  have e4:(cur.take (i * k)++xs.drop (j * k)).length=(i+(n - j)) * k:=by
   rw[List.length_append,hdl,List.length_take,hl];omega
  rw[List.append_assoc (cur.take _),←List.append_assoc (cur.take (i * k))];rw[List.take_append_of_le_length (l₁:=cur.take (i * k)++xs.drop (j * k)) (by omega)];rw[List.take_of_length_le (l:=cur.take (i * k)++xs.drop (j * k)) (by omega)];rw[List.append_assoc,List.take_append_of_le_length (by omega),List.take_of_length_le (by omega)];congr 1;rw[←ht,List.take_take,Nat.min_eq_left (by have:=Nat.mul_le_mul_right k (show i≤n by omega);omega)]
 rw[e3] at this;exact this
end
end Go.Proofs.YtmkhmejempcimaaGreatDoor
namespace Go.Proofs.YtmkhmejempcimaaGreatDoor
open Lib (hid)
open Go.Proofs.Tryz (prog)
structure Kept{α:Type}(p:α→Bool)(l d:List α)(i j:Nat):Prop where
 len:d.length=l.length
 ahead:d.take i=(l.take j).filter fun x=>!p x
 behind:∀t,j≤t→d[t]? = l[t]?
 lt:i < j
 le:j≤l.length
theorem Kept.start{α:Type}{p:α→Bool}{l:List α}{k:Nat}{s:α}(h:∀(j:Nat) t,j < k→l[j]? = some t→p t=false)(hk:l[k]? = some s)(hs:p s=true):Kept p l l k (k+1):=by
 have hlt:k < l.length:=(List.getElem?_eq_some_iff.1 hk).1;refine⟨rfl,?_,fun _ _=>rfl,by omega,by omega⟩;rw[List.take_add_one,hk,Option.toList_some,List.filter_append,List.filter_eq_self.2]
 ·simp[hs]
 ·intro a ha;obtain⟨j,hj⟩:=List.getElem?_of_mem ha;rw[List.getElem?_take] at hj;split at hj
  ·rw[h j a (by assumption) hj];rfl
  ·cases hj
theorem Kept.keep{α:Type}{p:α→Bool}{l d:List α}{i j:Nat}{s:α}(h:Kept p l d i j)(hj:l[j]? = some s)(hs:p s=false):Kept p l (d.set i s) (i+1) (j+1):=by
 have hlt:j < l.length:=(List.getElem?_eq_some_iff.1 hj).1;have:=h.lt;have:=h.len;refine⟨by simp[h.len],?_,fun t ht=>?_,by omega,by omega⟩
 ·rw[List.take_add_one,List.getElem?_set_self (by omega),Option.toList_some,List.take_set_of_le (Nat.le_refl _),h.ahead,List.take_add_one,hj,Option.toList_some,List.filter_append];simp[hs]
 ·rw[List.getElem?_set_ne (by omega)];exact h.behind t (by omega)
theorem Kept.skip{α:Type}{p:α→Bool}{l d:List α}{i j:Nat}{s:α}(h:Kept p l d i j)(hj:l[j]? = some s)(hs:p s=true):Kept p l d i (j+1):=by
 have hlt:j < l.length:=(List.getElem?_eq_some_iff.1 hj).1;have:=h.lt;refine⟨h.len,?_,fun t ht=>h.behind t (by omega),by omega,by omega⟩;rw[h.ahead,List.take_add_one,hj,Option.toList_some,List.filter_append];simp[hs]
theorem Kept.done{α:Type}{p:α→Bool}{l d:List α}{i:Nat}(h:Kept p l d i l.length):d.take i=l.filter fun x=>!p x:=by
 have:=h.ahead;rwa[List.take_length] at this
theorem zde{α:Type}(p:α→Bool)(l:List α):(z2w p l=-1∧(l.filter fun x=>!p x)=l)∨∃(k:Nat) (s:α),z2w p l=k∧k < l.length∧Kept p l l k (k+1):=by
 cases hf:l.findIdx? p with
 | none=>
  refine .inl ⟨by unfold z2w;rw[hf],?_⟩;rw[List.filter_eq_self];rw[List.findIdx?_eq_none_iff] at hf;intro a ha;simp[hf a ha]
 | some k=>
  rw[List.findIdx?_eq_some_iff_getElem] at hf;obtain⟨hlt,he,hno⟩:=hf;refine .inr ⟨k,l[k],?_,hlt,Kept.start (s:=l[k]) (fun j t hj ht=>?_) (List.getElem?_eq_getElem hlt) he⟩
  ·exact z1l (fun j t hj ht=>by
    have:=hno j hj;obtain⟨hj',e⟩:=List.getElem?_eq_some_iff.1 ht;rw[←e];simpa using this) (List.getElem?_eq_getElem hlt) he
  ·have:=hno j hj;obtain⟨hj',e⟩:=List.getElem?_eq_some_iff.1 ht;rw[←e];simpa using this
theorem z3z{P:Program}{f:FuncId}{fn:Func}{c:Code}(hf:P.funcs[f]? = some fn)(hn:(fn.name == "runtime.NumGoroutine")=false)(hb:fn.body=some c)(args:Array Value)(w:World):(callFunc f args).run P w=.ok (.enter f args) w:=by
 have h1:fn.name ≠ "runtime.NumGoroutine" := by simpa using hn
 simp[callFunc,hf,h1,hb,mark]
def z1o:Value→List Nat
 | .slice (some a) _ _=>[a.block]
 | _=>[]
theorem z1q{w w':World}{v:Value}(h:w.grownBy w' v.ownBlock):Fr (z1o v) w w':=by
 refine(Fr.refl _ w).grown h (fun k hk=>.inl ?_);unfold Value.ownBlock at hk;unfold z1o;split at hk
 ·cases hk;simp
 ·cases hk
theorem z2o{w:World}{base e size n:Nat}{v:Value}{xs:List Value}(h:w.ownsRow base e size v n xs){k:Nat}(hk:k∈z1o v):base≤k:=by
 unfold z1o at hk;split at hk
 ·simp at hk;subst hk;exact(h.lt _ rfl).1
 ·cases hk
theorem z01{w w':World}{S:List Nat}(h:Fr S w.drew w'):Fr S w w':=⟨h.os,h.tape,h.output,h.size,h.block⟩
theorem z9f(l:List ByteArray)(i:Nat)(s:ByteArray):z04 (l.set i s)=(z04 l).set i (.string s):=by simp[z04,List.map_set]
end Go.Proofs.YtmkhmejempcimaaGreatDoor
namespace Go.Proofs.YtmkhmejempcimaaGreatDoor
open Lib (hid)
open Go.Proofs.Tryz (prog)
open Go.RowKit
attribute [local go_sem] z0p
theorem zhi(w:World)(k:Nat)(os:Array Obj):Fr [] w (Sort.grow (w.drewN k) os):=
 ⟨rfl,rfl,rfl,by show w.heap.size≤(w.heap++os).size;simp,fun j hj _=>by
  show(w.heap++os)[j]? = w.heap[j]?;rw[Array.getElem?_append_left hj]⟩
theorem zfb(w:World)(e:TypeId)(s:ByteArray):Fr [] w (Lib.bytesWorld w e s):=by
 unfold Lib.bytesWorld;refine⟨rfl,rfl,rfl,by simp[World.freeze],fun j hj _=>?_⟩;have h1:(w.drew.alloc (.cells (Lib.bytesCells w e s) e)).heap[j]? = w.heap[j]? := Below.heap_alloc w.drew _ j hj;have hne:w.heap.size≠j:=by omega
 simpa[World.freeze,Array.getElem?_modify,hne] using h1
structure Vars(w:World):Prop where
 tab:Lib.TabIs prog w "internal/strconv.uint64pow10" .u64 Lib.pow10Tab
 syn:∃tp p,w.var? prog "strconv.ErrSyntax" = some #[.iface tp p]
 rng:∃tp p,w.var? prog "strconv.ErrRange" = some #[.iface tp p]
theorem zje{P:Program}{w w':World}{n:String}{cs:Array Value}(h:w.var? P n=some cs)(hf:Fr [] w w'):w'.var? P n=some cs:=by
 unfold World.var? at h ⊢;cases hg:P.globalNamed n with
 | none=>rw[hg] at h;cases h
 | some g=>
  rw[hg] at h;simp only[Option.bind_some] at h ⊢;cases hb:w.heap[g]? with
  | none=>rw[hb] at h;cases h
  | some o=>
   have hlt:g < w.heap.size:=(Array.getElem?_eq_some_iff.1 hb).1;rw[hf.block g hlt (by simp),hb];rw[hb] at h;exact h
theorem Vars.fr{w w':World}(h:Vars w)(hf:Fr [] w w'):Vars w':=
 ⟨zje h.tab hf,h.syn.imp fun _ ⟨p,hp⟩=>⟨p,zje hp hf⟩,h.rng.imp fun _ ⟨p,hp⟩=>⟨p,zje hp hf⟩⟩
def Tab(w:World):Prop:=Lib.TabIs prog w "internal/strconv.uint64pow10" .u64 Lib.pow10Tab
theorem zp6(n:Int)(w:World)(hv:Tab w)(h:-9223372036854775808≤n∧n≤9223372036854775807):
  Calls prog 96 #[.int .i64 n] w fun e w'=>e=.returned (.string ⟨(Lib.itoa n).toArray⟩)∧Fr [] w w':=
 (Tryz.strconv_Itoa n h.1 h.2 w hv).mono fun e w' ⟨he,k,os,hw⟩=>⟨he,by rw[hw];exact zhi w k os⟩
theorem zlb(n:Int)(w:World)(hv:Vars w)(h:-9223372036854775808≤n∧n≤9223372036854775807):
  Calls prog 96 #[.int .i64 n] w fun e w'=>e=.returned (.string ⟨(Lib.itoa n).toArray⟩)∧Fr [] w w':=
 (Tryz.strconv_Itoa n h.1 h.2 w hv.tab).mono fun e w' ⟨he,k,os,hw⟩=>⟨he,by rw[hw];exact zhi w k os⟩
def zkx(s:ByteArray)(w:World)(e:Ending)(w':World):Prop:=∃(n:Int) (v:Value),e=.returned (.tuple #[.int .i64 n,v])∧(-9223372036854775808≤n∧n≤9223372036854775807) ∧
 ((v=.nilIface∧Lib.atoiAll s.data.toList=.ok n)∨((∃t N,v=.iface t (.pointer (some ⟨N,0,none⟩)))∧zcu s.data.toList=none))∧Fr [] w w'
theorem zdt{l:List UInt8}{v:Int}(h:Lib.atoiAll l=.ok v):-9223372036854775808≤v∧v≤9223372036854775807:=by
 unfold Lib.atoiAll at h;split at h
 ·cases h
 ·simp only at h;split at h
  ·cases h
  ·cases h
  ·split at h
   ·cases h
   ·rename_i h1;split at h
    ·cases h
    ·rename_i h2;injection h with h
     subst h;split <;> omega
theorem zlp(s:ByteArray)(w:World)(hv:Vars w)(hs:s.size≤281474976710656):
  Calls prog 95 #[.string s] w (zkx s w):=by
 rcases h:Lib.atoiAll s.data.toList with v|_|_
 ·refine(Tryz.strconv_Atoi_ok s (by omega) v h w).mono fun e w' ⟨he,hw⟩=>⟨v,_,he,zdt h,.inl ⟨rfl,h⟩,?_⟩;rcases hw with rfl|⟨t,rfl⟩
  ·exact Fr.refl [] _
  ·exact zfb _ _ _
 ·obtain⟨tp,p,hp⟩:=hv.syn;exact(Tryz.strconv_Atoi_syntax_var s hs h tp p w hp).mono fun e w' ⟨N,he,_,_,hb⟩=>⟨0,_,he,by decide,.inr ⟨⟨_,N,rfl⟩,zfc (fun v=>by rw[h];exact fun e=>by cases e)⟩,Fr.of_below hb⟩
 ·obtain⟨tp,p,hp⟩:=hv.rng;refine(Tryz.strconv_Atoi_range_var s hs h tp p w hp).mono fun e w' ⟨N,he,_,_,hb⟩=>⟨_,_,he,?_,.inr ⟨⟨_,N,rfl⟩,zfc (fun v=>by rw[h];exact fun e=>by cases e)⟩,Fr.of_below hb⟩;unfold Lib.atoiSat;split <;> decide
def zcp(s:ByteArray)(w:World)(e:Ending)(w':World):Prop:=∃n:Int,e=.returned (.tuple #[.int .i64 n,.bool (zcu s.data.toList).isSome])∧(-9223372036854775808≤n∧n≤9223372036854775807)∧(∀v,zcu s.data.toList=some v→n=v)∧Fr [] w w'
theorem ze4(s:ByteArray)(w:World)(hv:Vars w)(hs:s.size≤281474976710656):
  Calls prog 63 #[.string s] w (zcp s w):=by
 have AT:=hid (zlp s w hv hs);have HV:=hid hv;clear hv;go_enter Tryz.func63,Tryz.ntmps63;go_wp2_with fail;refine AT.out.mono ?_;rintro e w1 ⟨n,v,rfl,hn,hc,f1⟩;have IT:=hid (fun(W:World) (hW:Fr [] w1 W)=>zlb n W (HV.out.fr (f1.trans hW)) hn);have II:=hid (fun(W:World)=>z89 n W);have F1:=hid f1;clear f1;rcases hc with⟨rfl,ho⟩|⟨⟨t,N,rfl⟩,hno⟩
 ·have hp:=zht ho;have hq:=eqB ⟨(Lib.itoa n).toArray⟩ s;by_cases h1:Lib.itoa n=s.data.toList
  ·have e1:(⟨(Lib.itoa n).toArray⟩:ByteArray)=s:=by rw[h1]
   rw[e1]  at hq IT;have q1:(s.toList==s.toList)=true:=by simp
   by_cases h2:z17 n=true
   ·rw[if_pos ⟨h1,h2⟩] at hp;rw[h2] at II;have HP:=hid hp;clear hp ho hq h1 h2 e1;go_wp2_with fail;refine(IT.out _ (Fr.refl [] _)).mono ?_;rintro e w2 ⟨rfl,f2⟩;go_wp2_with fail;refine(II.out _).mono ?_;rintro e w3 ⟨rfl,h3⟩;subst h3;go_wp2;go_ret2;exact⟨n,by rw[HP.out];rfl,hn,(fun v h=>by rw[HP.out] at h;injection h),F1.out.trans f2⟩
   ·rw[if_neg (fun h=>h2 h.2)] at hp;rw[show z17 n=false by simpa using h2] at II;have HP:=hid hp;clear hp ho hq h1 h2 e1;go_wp2_with fail;refine(IT.out _ (Fr.refl [] _)).mono ?_;rintro e w2 ⟨rfl,f2⟩;go_wp2_with fail;refine(II.out _).mono ?_;rintro e w3 ⟨rfl,h3⟩;subst h3;go_wp2;go_ret2;exact⟨n,by rw[HP.out];rfl,hn,(fun v h=>by rw[HP.out] at h;cases h),F1.out.trans f2⟩
  ·rw[if_neg (fun h=>h1 h.1)] at hp;have HP:=hid hp
   have q1:((⟨(Lib.itoa n).toArray⟩:ByteArray).toList==s.toList)=false:=by
    rw[hq];exact decide_eq_false (fun e=>h1 (by rw[←e]))
   clear hp ho hq h1;generalize (⟨(Lib.itoa n).toArray⟩:ByteArray)=r at *;go_wp2_with fail;refine(IT.out _ (Fr.refl [] _)).mono ?_;rintro e w2 ⟨rfl,f2⟩;go_wp2;go_ret2;exact⟨n,by rw[HP.out];rfl,hn,(fun v h=>by rw[HP.out] at h;cases h),F1.out.trans f2⟩
 ·have HP:=hid hno;clear hno;go_wp2;go_ret2;exact⟨n,by rw[HP.out];rfl,hn,(fun v h=>by rw[HP.out] at h;cases h),F1.out⟩
end Go.Proofs.YtmkhmejempcimaaGreatDoor
namespace Go.Proofs.YtmkhmejempcimaaGreatDoor
open Lib (hid)
open Go.Proofs.Tryz (prog)
def toB(l:List UInt8):ByteArray:=⟨l.toArray⟩
theorem z3j(l:List UInt8):(toB l).size=l.length:=by show l.toArray.size=_;simp
theorem z55(l:List UInt8):(toB l).data.toList=l:=by simp[toB]
theorem zf8(b:ByteArray):toB b.data.toList=b:=by cases b;simp[toB]
def zoo(l:List ByteArray):Prop:=0 < l.length∧l.length≤12∧∀s∈l,s.size≤60
end Go.Proofs.YtmkhmejempcimaaGreatDoor
