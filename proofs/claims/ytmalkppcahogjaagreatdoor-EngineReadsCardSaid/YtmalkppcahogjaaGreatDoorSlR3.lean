/- Contracts; no condition but each theorem's own. -/
import Derived.Test.YtmalkppcahogjaaGreatDoorSlR2
import Derived.ChangeAlike
import Derived.Lib.AppendZeros
import Derived.Lib.AppendZerosOnto
import Derived.Lib.RowBridge
import Derived.Lib.SlicesCompact
import Derived.Maps.RangeWalk
import Derived.Sort.OwnSorted
import Derived.Sort.Walk0
set_option linter.unusedVariables false
set_option linter.unusedSimpArgs false
set_option maxHeartbeats 8000000
set_option maxRecDepth 100000
namespace Go.Proofs.YtmalkppcahogjaaGreatDoor
open Lib (hid)
open Go.Proofs.Tryz (prog)
open Go.RowKit
def ofV(v:Value)(x:Itm):Value:=if many x=0 then .agg #[.int .i64 0,.string ⟨#[]⟩,.slice none 0 0,.slice none 0 0,.slice none 0 0] else v
theorem zm7(x:Itm)(v:Value)(w:World)(B:Nat)(hs:x.Small)(hB:B≤w.heap.size)(h:z0r w B v x)(hk:x.kind≠1):
  Calls prog 345 #[v] w fun e w'=>e=.returned (ofV v x)∧Fr [] w w':=by
 have M:=hid (fun W (hf:Fr [] w W)=>zlm x v W B hs (h.fr hf hB (by simp)));obtain⟨A1,c1,A2,c2,A3,c3,rfl,h1,h2,h3⟩:=h;have F1:Fr [] w ((w.alloc (.cells #[.int .i64 x.kind,.string x.text,.slice A1 x.list.length c1,.slice A2 x.pairs.length c2,.slice A3 x.scores.length c3] 65)).alloc (.cells #[.int .i64 0,.string ⟨#[]⟩,.slice none 0 0,.slice none 0 0,.slice none 0 0] 65)):=((Fr.refl [] w).alloc _).alloc _;have V1:=hid (show Whole ((w.alloc (.cells #[.int .i64 x.kind,.string x.text,.slice A1 x.list.length c1,.slice A2 x.pairs.length c2,.slice A3 x.scores.length c3] 65)).alloc (.cells #[.int .i64 0,.string ⟨#[]⟩,.slice none 0 0,.slice none 0 0,.slice none 0 0] 65)) w.heap.size 65 [.int .i64 x.kind,.string x.text,.slice A1 x.list.length c1,.slice A2 x.pairs.length c2,.slice A3 x.scores.length c3] from(Whole.new w _ _).alloc _)
 have R1:=hid (show Whole ((w.alloc (.cells #[.int .i64 x.kind,.string x.text,.slice A1 x.list.length c1,.slice A2 x.pairs.length c2,.slice A3 x.scores.length c3] 65)).alloc (.cells #[.int .i64 0,.string ⟨#[]⟩,.slice none 0 0,.slice none 0 0,.slice none 0 0] 65)) (w.heap.size+1) 65 [.int .i64 0,.string ⟨#[]⟩,.slice none 0 0,.slice none 0 0,.slice none 0 0] from by
  have:=Whole.new (w.alloc (.cells #[.int .i64 x.kind,.string x.text,.slice A1 x.list.length c1,.slice A2 x.pairs.length c2,.slice A3 x.scores.length c3] 65)) 65 [.int .i64 0,.string ⟨#[]⟩,.slice none 0 0,.slice none 0 0,.slice none 0 0];simpa using this)
 have q1:(x.kind != 1)=true:=by simpa using hk
 obtain⟨d0,d1,d2,d3,d4⟩:=five V1.out;clear h1 h2 h3 hs hk;unfold ofV;generalize many x=m at *;by_cases hm:m=0
 ·subst hm;rw[if_pos rfl];go_enter Tryz.func345,Tryz.ntmps345;go_wp2_with fail;refine(M.out _ F1).mono ?_;rintro e w1 ⟨rfl,f1⟩;have F2:=F1.trans f1;have V2:=hid (V1.out.fr f1 (by simp));have R2:=hid (R1.out.fr f1 (by simp));clear d0 d1 d2 d3 d4;obtain⟨d0,d1,d2,d3,d4⟩:=five V2.out;obtain⟨a0,a1,a2,a3,a4⟩:=five R2.out;obtain⟨b0,b2,b3,b4,b5⟩:=z12 R2.out;go_wp2;refine bodyPost_ret (v:=.agg #[.int .i64 0,.string ⟨#[]⟩,.slice none 0 0,.slice none 0 0,.slice none 0 0]) (by simp[results,Tryz.results345,go_sem,a0,a1,a2,a3,a4]) rfl ?_;refine⟨rfl,z42 F2 (by omega) _ _ _ _ _⟩
 ·rw[if_neg hm];have q2:((m:Int)==0)=false:=by simp;omega
  go_enter Tryz.func345,Tryz.ntmps345;go_wp2_with fail;refine(M.out _ F1).mono ?_;rintro e w1 ⟨rfl,f1⟩;have F2:=F1.trans f1;have V2:=hid (V1.out.fr f1 (by simp));have R2:=hid (R1.out.fr f1 (by simp));clear d0 d1 d2 d3 d4;obtain⟨d0,d1,d2,d3,d4⟩:=five V2.out;obtain⟨a0,a1,a2,a3,a4⟩:=five R2.out;obtain⟨b0,b2,b3,b4,b5⟩:=z12 R2.out;go_wp2;refine bodyPost_ret (v:=.agg #[.int .i64 x.kind,.string x.text,.slice A1 x.list.length c1,.slice A2 x.pairs.length c2,.slice A3 x.scores.length c3]) (by simp[results,Tryz.results345,go_sem,a0,a1,a2,a3,a4]) rfl ?_;refine⟨rfl,z42 F2 (by omega) _ _ _ _ _⟩
def z6s(l:List ByteArray)(s:ByteArray):Bool:=l.any fun y=>decide (y=s)
theorem z2s{l:List ByteArray}{s:ByteArray}:z6s l s=true↔s∈l:=by
 unfold z6s;rw[List.any_eq_true];constructor
 ·rintro⟨y,hy,he⟩;have:y=s:=by simpa using he
  exact this ▸ hy
 ·intro h;exact⟨s,h,by simp⟩
def z91(l m:List ByteArray):List ByteArray:=l.filter fun y=>!z6s m y
theorem neqB'{s t:ByteArray}(h:s≠t):(s.toList==t.toList)=false:=by
 have:=eqB s t;rw[decide_eq_false h] at this;exact this
def zbu(k:Int)(l:List ByteArray):Itm:=⟨k,⟨#[]⟩,l,[],[]⟩
def ofK(k:Int)(l:List ByteArray):Itm:=if l.length=0 then z2p 0 else zbu k l
theorem zj8{k:Int}{l:List ByteArray}(hk:0≤k∧k≤5)(hl:l.length≤281474976710656)(ht:∀s∈l,s.size≤281474976710656):(zbu k l).Small:=
 ⟨by show -9223372036854775808≤k∧k≤9223372036854775807;omega,by show(⟨#[]⟩:ByteArray).size≤_;decide,by show l.length≤_;omega,by show 0≤_;omega,by show 0≤_;omega,ht,(fun p hp=>by cases hp),(fun p hp=>by cases hp)⟩
theorem zdb{k:Int}{l:List ByteArray}(hk:0≤k∧k≤5)(hl:l.length≤1000000)(ht:∀s∈l,s.size≤281474976710656):(zbu k l).Small:=zj8 hk (by omega) ht
theorem zvw(k:Int)(l:List ByteArray):(ofK k l).list=l:=by
 unfold ofK;by_cases h:l.length=0
 ·rw[if_pos h];exact(List.eq_nil_of_length_eq_zero h).symm
 ·rw[if_neg h];rfl
def z6a(k:Int)(x:Itm)(m:List ByteArray):Itm:=if z02 k x=0 then ofK k (z91 x.list m) else z2p 0
def zad(k:Int)(x:Itm)(m:List ByteArray):Int:=if z02 k x=0 then (x.list.length:Int) - (z91 x.list m).length else 0
end Go.Proofs.YtmalkppcahogjaaGreatDoor
namespace Go.Proofs.YtmalkppcahogjaaGreatDoor
open Lib (hid)
open Go.Proofs.Tryz (prog)
theorem zs6:∀a:List UInt8,Lib.compareBytes a a=0
 | []=>rfl
 | x :: r=>by
  show(if x < x then -1 else if x < x then 1 else Lib.compareBytes r r)=0;rw[if_neg (UInt8.lt_irrefl x),if_neg (UInt8.lt_irrefl x),zs6 r]
theorem zzw:∀a b:List UInt8,Lib.compareBytes a b=0→a=b
 | [],[],_=>rfl
 | [],y :: s,h=>by cases h
 | x :: r,[],h=>by cases h
 | x :: r,y :: s,h=>by
  have h':(if x < y then -1 else if y < x then 1 else Lib.compareBytes r s)=(0:Int):=h;by_cases h1:x < y
  ·rw[if_pos h1] at h';cases h'
  ·rw[if_neg h1] at h';by_cases h2:y < x
   ·rw[if_pos h2] at h';cases h'
   ·rw[if_neg h2] at h'
    have e:x=y:=by
     apply UInt8.toNat_inj.1;rw[UInt8.lt_iff_toNat_lt] at h1 h2;omega
    rw[e,zzw r s h']
theorem zqb:∀a b:List UInt8,Lib.compareBytes b a=- Lib.compareBytes a b
 | [],[]=>rfl
 | [],y :: s=>rfl
 | x :: r,[]=>rfl
 | x :: r,y :: s=>by
  show(if y < x then -1 else if x < y then 1 else Lib.compareBytes s r)=- (if x < y then -1 else if y < x then 1 else Lib.compareBytes r s);by_cases h1:x < y
  ·have h2:¬y < x:=by have:=UInt8.lt_iff_toNat_lt.1 h1;rw[UInt8.lt_iff_toNat_lt];omega
   rw[if_neg h2,if_pos h1,if_pos h1];rfl
  ·rw[if_neg h1,if_neg h1];by_cases h2:y < x
   ·rw[if_pos h2,if_pos h2]
   ·rw[if_neg h2,if_neg h2,zqb r s]
theorem zmn:∀a b c:List UInt8,Lib.compareBytes a b < 0→Lib.compareBytes b c < 0→Lib.compareBytes a c < 0
 | [],[],_,h,_=>by exact absurd h (by decide)
 | x :: r,[],_,h,_=>by exact absurd (show(1:Int) < 0 from h) (by decide)
 | _,y :: s,[],_,h=>by exact absurd (show(1:Int) < 0 from h) (by decide)
 | [],y :: s,z :: t,_,_=>by show(-1:Int) < 0;decide
 | x :: r,y :: s,z :: t,h1,h2=>by
  have h1':(if x < y then -1 else if y < x then 1 else Lib.compareBytes r s) < (0:Int):=h1;have h2':(if y < z then -1 else if z < y then 1 else Lib.compareBytes s t) < (0:Int):=h2;show(if x < z then -1 else if z < x then 1 else Lib.compareBytes r t) < (0:Int);simp only[UInt8.lt_iff_toNat_lt] at *;by_cases a1:x.toNat < y.toNat
  ·by_cases b1:y.toNat < z.toNat
   ·rw[if_pos (by omega)];decide
   ·by_cases b2:z.toNat < y.toNat
    ·rw[if_neg b1,if_pos b2] at h2';exact absurd h2' (by decide)
    ·rw[if_pos (by omega)];decide
  ·rw[if_neg a1] at h1';by_cases a2:y.toNat < x.toNat
   ·rw[if_pos a2] at h1';exact absurd h1' (by decide)
   ·rw[if_neg a2] at h1';by_cases b1:y.toNat < z.toNat
    ·rw[if_pos (by omega)];decide
    ·rw[if_neg b1] at h2';by_cases b2:z.toNat < y.toNat
     ·rw[if_pos b2] at h2';exact absurd h2' (by decide)
     ·rw[if_neg b2] at h2';rw[if_neg (by omega),if_neg (by omega)];exact zmn r s t h1' h2'
theorem z57(a:ByteArray):z4k a a=0:=zs6 _
theorem z8q{a b:ByteArray}(h:z4k a b=0):a=b:=by
 have:=zzw _ _ h;obtain⟨⟨a⟩⟩:=a;obtain⟨⟨b⟩⟩:=b;simp at this;subst this;rfl
theorem z63(a b:ByteArray):z4k b a=- z4k a b:=zqb _ _
theorem z54{a b c:ByteArray}(h1:z4k a b < 0)(h2:z4k b c < 0):z4k a c < 0:=zmn _ _ _ h1 h2
theorem z6t{α:Type}{lt:α→α→Bool}(htr:∀a b c,lt a b=true→lt b c=true→lt a c=true):∀ {l:List α},rises lt l=true→∀ {i j:Nat} {a b:α},i < j→l[i]? = some a→l[j]? = some b→lt a b=true
 | [],_,i,j,a,b,_,h,_=>by simp at h
 | [x],_,i,j,a,b,hij,_,h=>by
  have:=(List.getElem?_eq_some_iff.1 h).1;simp at this;omega
 | x :: y :: r,h,i,j,a,b,hij,ha,hb=>by
  have h':(lt x y&&rises lt (y :: r))=true:=h;rw[Bool.and_eq_true] at h';obtain⟨j',rfl⟩:∃j',j=j'+1:=⟨j - 1,by omega⟩;rw[List.getElem?_cons_succ] at hb
  match i with
  | 0=>
   rw[List.getElem?_cons_zero] at ha;cases ha
   match j' with
   | 0=>rw[List.getElem?_cons_zero] at hb;cases hb;exact h'.1
   | j''+1=>exact htr _ _ _ h'.1 (z6t htr h'.2 (i:=0) (j:=j''+1) (by omega) rfl hb)
  | i'+1=>
   rw[List.getElem?_cons_succ] at ha;exact z6t htr h'.2 (i:=i') (j:=j') (by omega) ha hb
theorem z3b{α:Type}{lt:α→α→Bool}(htr:∀a b c,lt a b=true→lt b c=true→lt a c=true){l:List α}(h:rises lt l=true):l.Pairwise (fun a b=>lt a b=true):=by
 rw[List.pairwise_iff_getElem];intro i j hi hj hij;exact z6t htr h hij (List.getElem?_eq_getElem hi) (List.getElem?_eq_getElem hj)
theorem zc8{α:Type}{lt:α→α→Bool}:∀ {l:List α},(∀(i:Nat) a b,l[i]? = some a→l[i+1]? = some b→lt a b=true)→rises lt l=true
 | [],_=>rfl
 | [x],_=>rfl
 | x :: y :: r,h=>by
  show(lt x y&&rises lt (y :: r))=true;rw[Bool.and_eq_true];exact⟨h 0 x y rfl rfl,zc8 fun i a b ha hb=>h (i+1) a b ha hb⟩
theorem z3q{α:Type}{lt:α→α→Bool}{l:List α}(h:l.Pairwise (fun a b=>lt a b=true)):rises lt l=true:=by
 apply zc8;intro i a b ha hb;obtain⟨hi,rfl⟩:=List.getElem?_eq_some_iff.1 ha;obtain⟨hj,rfl⟩:=List.getElem?_eq_some_iff.1 hb;exact List.pairwise_iff_getElem.1 h i (i+1) hi hj (Nat.lt_succ_self i)
section
variable {α:Type} (key:α→ByteArray)
def z1x(l:List α)(f:ByteArray):Nat:=(l.takeWhile fun q=>decide (z4k (key q) f < 0)).length
def z5y(l:List α)(f:ByteArray):Bool:=match l[z1x key l f]? with|some q=>decide (z4k (key q) f=0)|none=>false
def zbw(l:List α)(p:α):List α:=if z5y key l (key p)=true then l.set (z1x key l (key p)) p else l.take (z1x key l (key p))++p :: l.drop (z1x key l (key p))
def ltK(a b:α):Bool:=decide (z4k (key a) (key b) < 0)
theorem z5t(l:List α)(f:ByteArray):z1x key l f≤l.length:=by
 unfold z1x;exact(List.takeWhile_sublist _).length_le
theorem z7h:∀ {l:List α} {f:ByteArray} {k:Nat} {q:α},k < z1x key l f→l[k]? = some q→z4k (key q) f < 0
 | [],f,k,q,h,hq=>by simp at hq
 | x :: r,f,k,q,h,hq=>by
  unfold z1x at h;rw[List.takeWhile_cons] at h;by_cases hx:z4k (key x) f < 0
  ·rw[if_pos (by simpa using hx)] at h
   match k with
   | 0=>rw[List.getElem?_cons_zero] at hq;cases hq;exact hx
   | k'+1=>
    rw[List.getElem?_cons_succ] at hq;exact z7h (l:=r) (k:=k') (by unfold z1x;simp at h;omega) hq
  ·rw[if_neg (by simpa using hx)] at h;simp at h
theorem zdp:∀ {l:List α} {f:ByteArray} {q:α},l[z1x key l f]? = some q→¬z4k (key q) f < 0
 | [],f,q,hq=>by simp at hq
 | x :: r,f,q,hq=>by
  unfold z1x at hq;rw[List.takeWhile_cons] at hq;by_cases hx:z4k (key x) f < 0
  ·rw[if_pos (by simpa using hx),List.length_cons,List.getElem?_cons_succ] at hq;exact zdp (l:=r) hq
  ·rw[if_neg (by simpa using hx)] at hq;simp at hq;rw[←hq];exact hx
theorem z58(a b c:α)(h1:ltK key a b=true)(h2:ltK key b c=true):ltK key a c=true:=
 decide_eq_true (z54 (of_decide_eq_true h1) (of_decide_eq_true h2))
theorem zga{l:List α}{f:ByteArray}{k:Nat}{q:α}(hr:rises (ltK key) l=true)(hk:z1x key l f≤k)(hq:l[k]? = some q):¬z4k (key q) f < 0:=by
 obtain⟨hlt,_⟩:=List.getElem?_eq_some_iff.1 hq;obtain⟨q0,h0⟩:∃q0,l[z1x key l f]? = some q0:=⟨_,List.getElem?_eq_getElem (by omega)⟩;have n0:=zdp key h0;rcases Nat.lt_or_ge (z1x key l f) k with h|h
 ·intro hlt;have:=of_decide_eq_true (z6t (z58 key) hr h h0 hq);exact n0 (z54 this hlt)
 ·have e:k=z1x key l f:=by omega
  rw[e,h0] at hq;cases hq;exact n0
theorem zxu{l:List α}{f:ByteArray}{k:Nat}{q:α}(hr:rises (ltK key) l=true)(hk:z1x key l f < k)(hq:l[k]? = some q):0 < z4k (key q) f:=by
 obtain⟨hlt,_⟩:=List.getElem?_eq_some_iff.1 hq;obtain⟨q0,h0⟩:∃q0,l[z1x key l f]? = some q0:=⟨_,List.getElem?_eq_getElem (by omega)⟩;have n0:=zdp key h0;have h1:=of_decide_eq_true (z6t (z58 key) hr hk h0 hq);have a1:=z63 (key q0) f;rcases Int.lt_trichotomy (z4k (key q) f) 0 with h|h|h
 ·exact absurd (z54 h1 h) n0
 ·rw[z8q h] at h1;exact absurd h1 n0
 ·exact h
theorem z32{l:List α}{f:ByteArray}:z5y key l f=true↔∃q,l[z1x key l f]? = some q∧key q=f:=by
 unfold z5y;constructor
 ·intro h;split at h
  ·rename_i q hq;exact⟨q,hq,z8q (of_decide_eq_true h)⟩
  ·cases h
 ·rintro⟨q,hq,rfl⟩;rw[hq];exact decide_eq_true (z57 _)
theorem zf4{l:List α}{k:Nat}{q:α}(hr:rises (ltK key) l=true)(hq:l[k]? = some q):z1x key l (key q)=k:=by
 rcases Nat.lt_trichotomy k (z1x key l (key q)) with h|h|h
 ·have:=z7h key h hq;rw[z57] at this;exact absurd this (by decide)
 ·exact h.symm
 ·have:=zxu key hr h hq;rw[z57] at this;exact absurd this (by decide)
theorem zcm{l:List α}{k:Nat}{q:α}(hr:rises (ltK key) l=true)(hq:l[k]? = some q):z5y key l (key q)=true:=
 (z32 key).2 ⟨q,by rw[zf4 key hr hq];exact hq,rfl⟩
theorem zkk(l:List α)(p:α):(zbw key l p).length=if z5y key l (key p)=true then l.length else l.length+1:=by
 unfold zbw;have:=z5t key l (key p);by_cases h:z5y key l (key p)=true
 ·rw[if_pos h,if_pos h,List.length_set]
 ·rw[if_neg h,if_neg h,List.length_append,List.length_cons,List.length_take,List.length_drop];omega
theorem zta{l:List α}{p q:α}(h:q∈zbw key l p):q=p∨q∈l:=by
 unfold zbw at h;by_cases hh:z5y key l (key p)=true
 ·rw[if_pos hh] at h;rcases List.mem_or_eq_of_mem_set h with h|h
  ·exact .inr h
  ·exact .inl h
 ·rw[if_neg hh] at h;rcases List.mem_append.1 h with h|h
  ·exact .inr (List.mem_of_mem_take h)
  ·rcases List.mem_cons.1 h with h|h
   ·exact .inl h
   ·exact .inr (List.mem_of_mem_drop h)
theorem zf0{l:List α}(p:α)(hr:rises (ltK key) l=true):rises (ltK key) (zbw key l p)=true:=by
 have hle:=z5t key l (key p);have step:∀ {i:Nat} {a b:α},l[i]? = some a→l[i+1]? = some b→ltK key a b=true:=fun ha hb=>z6t (z58 key) hr (Nat.lt_succ_self _) ha hb;unfold zbw;by_cases hh:z5y key l (key p)=true
 ·rw[if_pos hh];obtain⟨q,hq,he⟩:=(z32 key).1 hh;have hlt:=(List.getElem?_eq_some_iff.1 hq).1;apply zc8;intro i a b ha hb;by_cases h1:i=z1x key l (key p)
  ·rw[h1,List.getElem?_set_self hlt] at ha;rw[h1,List.getElem?_set_ne (by omega)] at hb;cases ha;have:=step hq hb;unfold ltK at this ⊢;rw[←he];exact this
  ·rw[List.getElem?_set_ne (by omega)] at ha;by_cases h2:i+1=z1x key l (key p)
   ·rw[h2,List.getElem?_set_self hlt] at hb;cases hb;rw[←h2] at hq;have:=step ha hq;unfold ltK at this ⊢;rw[←he];exact this
   ·rw[List.getElem?_set_ne (by omega)] at hb;exact step ha hb
 ·rw[if_neg hh];have hno:∀q,l[z1x key l (key p)]? = some q→key q≠key p:=fun q hq he=>hh ((z32 key).2 ⟨q,hq,he⟩);apply zc8;intro i a b ha hb;have hlt:(l.take (z1x key l (key p))).length=z1x key l (key p):=by rw[List.length_take];omega
  rcases Nat.lt_trichotomy (i+1) (z1x key l (key p)) with h|h|h
  ·rw[List.getElem?_append_left (by omega),List.getElem?_take_of_lt (by omega)] at ha hb;exact step ha hb
  ·rw[List.getElem?_append_left (by omega),List.getElem?_take_of_lt (by omega)] at ha;rw[List.getElem?_append_right (by omega),hlt,show i+1 - z1x key l (key p)=0 by omega,List.getElem?_cons_zero] at hb;cases hb;exact decide_eq_true (z7h key (by omega) ha)
  ·by_cases h2:i=z1x key l (key p)
   ·rw[List.getElem?_append_right (by omega),hlt,show i - z1x key l (key p)=0 by omega,List.getElem?_cons_zero] at ha;rw[List.getElem?_append_right (by omega),hlt,show i+1 - z1x key l (key p)=0+1 by omega,List.getElem?_cons_succ,List.getElem?_drop,Nat.add_zero] at hb;cases ha;have n1:=zdp key hb;have n2:=hno b hb;have a1:=z63 (key b) (key p);refine decide_eq_true ?_;rcases Int.lt_trichotomy (z4k (key b) (key p)) 0 with h|h|h
    ·exact absurd h n1
    ·exact absurd (z8q h) n2
    ·omega
   ·rw[List.getElem?_append_right (by omega),hlt,show i - z1x key l (key p)=(i - 1 - z1x key l (key p))+1 by omega,List.getElem?_cons_succ,List.getElem?_drop] at ha;rw[List.getElem?_append_right (by omega),hlt,show i+1 - z1x key l (key p)=(i - z1x key l (key p))+1 by omega,List.getElem?_cons_succ,List.getElem?_drop] at hb;rw[show z1x key l (key p)+(i - 1 - z1x key l (key p))=i - 1 by omega] at ha;rw[show z1x key l (key p)+(i - z1x key l (key p))=i - 1+1 by omega] at hb;exact step ha hb
end
end Go.Proofs.YtmalkppcahogjaaGreatDoor
namespace Go.Proofs.YtmalkppcahogjaaGreatDoor
open Lib (hid)
open Go.Proofs.Tryz (prog)
open Go.RowKit
def z4c(i:Nat)(b:Bool)(w:World)(e:Ending)(w':World):Prop:=e=.returned (.tuple #[.int .i64 i,.bool b])∧Fr [] w w'
theorem z4q{S:List Nat}{B:Nat}{a b:World}(h:FrB S B a b){p:Addr}{v:Value}(hc:a.cell? p=some v)(hB:p.block < B)(hS:p.block∉S):b.cell? p=some v:=
 (World.cell?_of_block (h.block _ (World.block_lt_of_cell? a p hc) hB hS)).trans hc
theorem zs2{w w':World}{B D size n:Nat}{v:Value}{xs:List Value}(h:Sl w B size v n xs)(hf:FrB [] D w w')(hD:B≤D):Sl w' B size v n xs:=by
 obtain⟨A,c,e,hl,hc,hm,hr⟩:=h;refine⟨A,c,e,hl,hc,hm,fun hn=>?_⟩;obtain⟨g,off,e2,hg,hcell⟩:=hr hn;exact⟨g,off,e2,hg,fun j u hu=>z4q hf (hcell j u hu) (Nat.lt_of_lt_of_le hg hD) (by simp)⟩
theorem zok{α:Type}(p:α→Bool)(l:List α):l.any p=decide (z34 p l ≥ 0):=by
 unfold z34;cases hf:l.findIdx? p with
 | none=>
  rw[List.findIdx?_eq_none_iff] at hf;show l.any p=decide ((-1:Int) ≥ 0);rw[List.any_eq_false.2 (fun x hx=>by simp[hf x hx])];rfl
 | some k=>
  rw[List.findIdx?_eq_some_iff_getElem] at hf;obtain⟨hlt,he,_⟩:=hf;rw[List.any_eq_true.2 ⟨_,List.getElem_mem hlt,he⟩];exact(decide_eq_true (show((k:Nat):Int) ≥ 0 by omega)).symm
theorem z72(l:List ByteArray)(s:ByteArray)(A:Option Addr)(c B:Nat)(w:World)(hl:l.length≤281474976710656)(hB:B≤w.heap.size)(h:Sl w B 1 (.slice A l.length c) l.length (z04 l)):
  Calls prog 307 #[.slice A l.length c,.string s] w fun e w'=>e=.returned (.bool (l.any fun y=>decide (y=s)))∧w=w':=by
 have HS:=hid h;clear h
 have IX:Calls prog 348 #[.slice A l.length c,.string s] w fun e w'=>e=.returned (.int .i64 (z34 (fun y=>decide (y=s)) l))∧w=w':=by
  go_enter Tryz.func348,Tryz.ntmps348;go_wp2;go_loopg [5,8] l.length (fun g u i wr=>∃(k:Nat),g=l.length - k∧k≤l.length∧i=.int .i64 k∧(∀(j:Nat) t,j < k→l[j]? = some t→(fun y=>decide (y=s)) t=false)∧w=wr)
  case atStart=>exact⟨0,rfl,Nat.zero_le _,rfl,fun j t hj=>absurd hj (Nat.not_lt_zero _),rfl⟩
  case round=>
   obtain⟨k,rfl,hk,rfl,hno,rfl⟩:=hrel;by_cases hlt:k < l.length
   ·obtain⟨b,off,rfl,hb,hc,hm,hcell⟩:=HS.out.at_ (by omega);obtain⟨t,ht⟩:∃t,l[k]? = some t:=⟨_,List.getElem?_eq_getElem hlt⟩;have hc1:w.cell? ⟨b,off+k,none⟩=some (.string t):=hcell k _ (z1b l k t ht);by_cases hq:t=s
    ·have E:=hid (z2i hno ht (decide_eq_true hq));have q:(s.toList==t.toList)=true:=by have:=eqB s t;rw[decide_eq_true hq.symm] at this;exact this
     clear hno hcell ht hq;go_wp2;go_ret;rw[E.out];exact⟨rfl,rfl⟩
    ·have q:(s.toList==t.toList)=false:=by have:=eqB s t;rw[decide_eq_false (fun e=>hq e.symm)] at this;exact this
     have N:=hid (fun j t' (hj:j < k+1) (ht':l[j]? = some t')=>(show(fun y=>decide (y=s)) t'=false by
      rcases Nat.lt_or_ge j k with h|h
      ·exact hno j t' h ht'
      ·have e:j=k:=by omega
       subst e;rw[ht] at ht';cases ht';exact decide_eq_false hq))
     clear hno hcell ht hq;go_wp2;go_roundg (l.length - (k+1))
     case measure=>omega
     case rel=>exact⟨k+1,rfl,by omega,by go_num,N.out,rfl⟩
   ·have E:=hid (z33 (q:=fun y=>decide (y=s)) (l:=l) (fun j t ht=>hno j t (by have:=(List.getElem?_eq_some_iff.1 ht).1;omega) ht));clear hno;go_wp2;go_ret;rw[E.out];exact⟨rfl,rfl⟩
 have EQ:=zok (fun y=>decide (y=s)) l;have IX:=hid IX;generalize z34 (fun y=>decide (y=s)) l=i at *;generalize (l.any fun y=>decide (y=s))=b at *;subst EQ;go_enter Tryz.func307,Tryz.ntmps307;go_wp2_with fail;refine IX.out.mono ?_;rintro e w1 ⟨rfl,rfl⟩;go_wp2;go_ret;exact⟨rfl,rfl⟩
theorem zu6(l:List (ByteArray×ByteArray))(f v:ByteArray)(A:Option Addr)(c B:Nat)(w:World)(hr:rises (ltK Prod.fst) l=true)(hl:l.length≤281474976710656)(hB:B≤w.heap.size)(h:Sl w B 2 (.slice A l.length c) l.length (z0f l)):
  Calls prog 350 #[.slice A l.length c,.agg #[.string f,.string v],.func (Fn.func 177) #[] #[]] w (z4c (z1x Prod.fst l f) (z5y Prod.fst l f) w):=by
 have HS:=hid h;have hlow:=z5t Prod.fst l f;have HR:=hid hr;have F0:=hid ((Fr.refl [] w).alloc (.cells #[.string f,.string v] 108));have B0:=hid (Whole.new w 108 [.string f,.string v]);clear h hr;go_enter Tryz.func350,Tryz.ntmps350;go_wp2;go_loopg [9,10] l.length (fun g s9 s10 wr=>∃(lo hi:Nat),g=hi - lo∧s9=.int .i64 lo∧s10=.int .i64 hi∧lo≤z1x Prod.fst l f∧z1x Prod.fst l f≤hi∧hi≤l.length∧Fr [] w wr∧Whole wr w.heap.size 108 [.string f,.string v])
 case atStart=>exact⟨0,l.length,rfl,rfl,rfl,Nat.zero_le _,hlow,Nat.le_refl _,F0.out,B0.out⟩
 case round=>
  obtain⟨lo,hi,rfl,rfl,rfl,h1,h2,h3,hf,hb⟩:=hrel;have HF:=hid hf;have HB:=hid hb;clear hf hb;by_cases hlt:lo < hi
  ·obtain⟨m,hm⟩:∃m,m=(lo+hi) / 2:=⟨_,rfl⟩;have hml:m < l.length:=by omega
   obtain⟨b,off,rfl,hb,hc,hmx,hcell⟩:=HS.out.at_ (by omega);obtain⟨q,hq⟩:∃q,l[m]? = some q:=⟨_,List.getElem?_eq_getElem hml⟩;have x1:w.cell? ⟨b,off+m * 2,none⟩=some (.string q.1):=by rw[Nat.mul_comm];exact hcell _ _ (z0l l m q hq).1
   have x2:w.cell? ⟨b,off+m * 2+1,none⟩=some (.string q.2):=by rw[Nat.mul_comm];exact hcell _ _ (z0l l m q hq).2
   have X1:=hid x1;have X2:=hid x2;have c1:=HF.out.cell x1 (by simp);have c2:=HF.out.cell x2 (by simp);have d1:wr.cell? ⟨w.heap.size,0,none⟩=some (.string f):=HB.out.cell 0;have d2:wr.cell? ⟨w.heap.size,1,none⟩=some (.string v):=HB.out.cell 1;have FL:=hid (fun W=>zas q (f,v) W);have hmi:((lo:Int)+(hi:Int)) / 2=(m:Int):=by omega
   have hM:=hid hm
   have hnew:(z4k q.1 f < 0→m < z1x Prod.fst l f)∧(¬z4k q.1 f < 0→z1x Prod.fst l f≤m):=⟨fun h=>by
    rcases Nat.lt_or_ge m (z1x Prod.fst l f) with h'|h'
    ·exact h'
    ·exact absurd h (zga Prod.fst HR.out h' hq),fun h=>by
    rcases Nat.lt_or_ge m (z1x Prod.fst l f) with h'|h'
    ·exact absurd (z7h Prod.fst h' hq) h
    ·exact h'⟩
   rw[show((f,v):ByteArray×ByteArray).1=f from rfl] at FL;have HN:=hid hnew;clear x1 x2 hcell hq hnew hm;generalize z4k q.1 f=o at *;by_cases ho:o < 0
   ·have hn:=HN.out.1 ho;go_wp2;clear hmi;go_region_held3 (fun wx=>wx.cell? ⟨b,off+m * 2,none⟩=some (.string q.1)∧wx.cell? ⟨b,off+m * 2+1,none⟩=some (.string q.2)∧wx.cell? ⟨w.heap.size,0,none⟩=some (.string f)∧wx.cell? ⟨w.heap.size,1,none⟩=some (.string v)) (go_keep) (first|(go_at_call 177;(refine(FL.out _).mono ?_);rintro e w2 ⟨rfl,f2⟩;have G2:=hid (z01 f2);have c1:=G2.out.cell c1 (by simp);have c2:=G2.out.cell c2 (by simp);have d1:=G2.out.cell d1 (by simp);have d2:=G2.out.cell d2 (by simp);clear f2))
    go_wp2;go_roundg (hi - (m+1))
    case measure=>have:=hM.out;omega
    case rel=>exact⟨m+1,hi,rfl,by go_num,rfl,by omega,h2,h3,HF.out.trans G2.out,HB.out.fr G2.out (by simp)⟩
   ·have hn:=HN.out.2 ho;go_wp2;clear hmi;go_region_held3 (fun wx=>wx.cell? ⟨b,off+m * 2,none⟩=some (.string q.1)∧wx.cell? ⟨b,off+m * 2+1,none⟩=some (.string q.2)∧wx.cell? ⟨w.heap.size,0,none⟩=some (.string f)∧wx.cell? ⟨w.heap.size,1,none⟩=some (.string v)) (go_keep) (first|(go_at_call 177;(refine(FL.out _).mono ?_);rintro e w2 ⟨rfl,f2⟩;have G2:=hid (z01 f2);have c1:=G2.out.cell c1 (by simp);have c2:=G2.out.cell c2 (by simp);have d1:=G2.out.cell d1 (by simp);have d2:=G2.out.cell d2 (by simp);clear f2))
    go_wp2;go_roundg (m - lo)
    case measure=>have:=hM.out;omega
    case rel=>exact⟨lo,m,rfl,rfl,rfl,h1,hn,by omega,HF.out.trans G2.out,HB.out.fr G2.out (by simp)⟩
  ·obtain rfl:hi=lo:=by omega
   obtain⟨lw,hlw⟩:∃lw,lw=z1x Prod.fst l f:=⟨_,rfl⟩;obtain rfl:hi=lw:=by omega
   have HL:=hid hlw;have d1:wr.cell? ⟨w.heap.size,0,none⟩=some (.string f):=HB.out.cell 0;have d2:wr.cell? ⟨w.heap.size,1,none⟩=some (.string v):=HB.out.cell 1;by_cases hn:hi < l.length
   ·obtain⟨b,off,rfl,hb,hc,hmx,hcell⟩:=HS.out.at_ (by omega);obtain⟨q,hq⟩:∃q,l[hi]? = some q:=⟨_,List.getElem?_eq_getElem hn⟩;have c1:=HF.out.cell (show w.cell? ⟨b,off+hi * 2,none⟩=some (.string q.1) by rw[Nat.mul_comm];exact hcell _ _ (z0l l hi q hq).1) (by simp);have c2:=HF.out.cell (show w.cell? ⟨b,off+hi * 2+1,none⟩=some (.string q.2) by rw[Nat.mul_comm];exact hcell _ _ (z0l l hi q hq).2) (by simp);have FL:=hid (fun W=>zas q (f,v) W);rw[show((f,v):ByteArray×ByteArray).1=f from rfl] at FL;have HH:=hid (show z5y Prod.fst l f=decide (z4k q.1 f=0) from by unfold z5y;rw[←hlw,hq]);clear hcell hq hlw h1 h2;generalize z4k q.1 f=o at *;by_cases ho:o=0
    ·subst ho;have HH2:=hid (HH.out.trans (decide_eq_true rfl));clear HH;go_wp2;go_region_held3 (fun wx=>wx.cell? ⟨b,off+hi * 2,none⟩=some (.string q.1)∧wx.cell? ⟨b,off+hi * 2+1,none⟩=some (.string q.2)∧wx.cell? ⟨w.heap.size,0,none⟩=some (.string f)∧wx.cell? ⟨w.heap.size,1,none⟩=some (.string v)) (go_keep) (first|(go_at_call 177;(refine(FL.out _).mono ?_);rintro e w2 ⟨rfl,f2⟩;have G2:=hid (z01 f2);have c1:=G2.out.cell c1 (by simp);have c2:=G2.out.cell c2 (by simp);have d1:=G2.out.cell d1 (by simp);have d2:=G2.out.cell d2 (by simp);clear f2))
     go_wp2;go_ret2;refine⟨?_,HF.out.trans G2.out⟩;rw[←HL.out,HH2.out];rfl
    ·have q1:(o==0)=false:=by simpa using ho
     have HH2:=hid (HH.out.trans (decide_eq_false ho));clear ho HH;go_wp2;go_region_held3 (fun wx=>wx.cell? ⟨b,off+hi * 2,none⟩=some (.string q.1)∧wx.cell? ⟨b,off+hi * 2+1,none⟩=some (.string q.2)∧wx.cell? ⟨w.heap.size,0,none⟩=some (.string f)∧wx.cell? ⟨w.heap.size,1,none⟩=some (.string v)) (go_keep) (first|(go_at_call 177;(refine(FL.out _).mono ?_);rintro e w2 ⟨rfl,f2⟩;have G2:=hid (z01 f2);have c1:=G2.out.cell c1 (by simp);have c2:=G2.out.cell c2 (by simp);have d1:=G2.out.cell d1 (by simp);have d2:=G2.out.cell d2 (by simp);clear f2))
     go_wp2;go_ret2;refine⟨?_,HF.out.trans G2.out⟩;rw[←HL.out,HH2.out];rfl
   ·have HH:=hid (show z5y Prod.fst l f=false from by unfold z5y;rw[←hlw,List.getElem?_eq_none (by omega)]);have hn':decide ((hi:Int) < (l.length:Int))=false:=by simpa using hn
    clear hlw h1 h2;go_wp2;go_quiet (fail);go_wp2;go_ret2;refine⟨?_,HF.out.drewN _⟩;rw[←HL.out,HH.out];rfl
theorem zho(l:List (ByteArray×ByteArray))(f:ByteArray)(A:Option Addr)(c B:Nat)(w:World)(hr:rises (ltK Prod.fst) l=true)(hl:l.length≤281474976710656)(hB:B≤w.heap.size)(h:Sl w B 2 (.slice A l.length c) l.length (z0f l)):
  Calls prog 315 #[.slice A l.length c,.string f] w (z4c (z1x Prod.fst l f) (z5y Prod.fst l f) w):=by
 have BI:=hid (zu6 l f ⟨#[]⟩ A c B w hr hl hB h);clear h hr;generalize z1x Prod.fst l f=i at *;generalize z5y Prod.fst l f=b at *;go_enter Tryz.func315,Tryz.ntmps315;go_wp2_with fail;refine BI.out.mono ?_;rintro e w1 ⟨rfl,f1⟩;go_wp2;go_ret2;exact⟨rfl,f1⟩
theorem zb9(n:Nat)(xs:List Value)(A:Option Addr)(c:Nat)(w:World)(B:Nat)(hl:n≤1000000)(hB:B≤w.heap.size)(h:Sl w B 2 (.slice A n c) n xs)(h1:∀u∈xs,u.oneCell'=true):
  Calls prog 195 #[.slice A n c] w (z7p 108 2 n xs w):=by
 obtain⟨i0,hi,hz0,hz1,hz2⟩:=info_parts z9h;have q29:∀(w:World) (a:Option Addr) (n c n' c':Nat),(binOp .eql 62 (.slice a n c) (.slice none n' c')).run prog w=.ok (.bool a.isNone) w:=fun w a n c n' c'=>Lib.run_eql_slice_nil w _ _ a n c n' c' Tryz.underlying62;cases A with
 | none=>
  obtain⟨A',c',e,hlx,hc,hm,hr⟩:=h;cases e
  have h0:n=0:=by
   rcases Nat.eq_zero_or_pos n with h0|h0
   ·exact h0
   ·obtain⟨_,_,h,_⟩:=hr h0;cases h
  subst h0;obtain rfl:xs=[]:=List.eq_nil_of_length_eq_zero (by omega);clear hr h1;go_enter Tryz.func195,Tryz.ntmps195;go_wp2;go_ret;exact⟨_,rfl,World.ownsRow_nil _ _ _ _,Fr.refl [] w⟩
 | some ad=>
  have hO:=(World.ownsRow_lit (base:=w.heap.size) (e:=108) (size:=2) w #[] 0 (Nat.le_refl _) (Nat.zero_le _) rfl);have hsl:=h.fr ((Fr.refl [] w).alloc (.cells #[] 108)) hB (by simp);have H1:=hid h1;have HS:=hid hsl;clear h h1 hsl;go_enter Tryz.func195,Tryz.ntmps195;go_wp2_with (at_builtin;refine z0j _ rfl _ _ 62 rfl w.heap.size 108 i0 _ 2 32 Tryz.underlying62 hi hz0 hz1 hz2 rfl (by decide) _ _ _ rfl hO B _ n xs rfl HS.out H1.out ?c1 ?c2 (by simp) ?_)
  case c1=>unfold maxLen;omega
  case c2=>omega
  intro v' w2 hown' hgrow hat;go_wp2;go_ret;refine⟨_,rfl,by simpa using hown',((Fr.refl [] w).alloc _).grown hgrow (fun k hk=>?_)⟩;simp[Value.ownBlock] at hk;subst hk;exact .inr (Nat.le_refl _)
def zof(g:Nat)(lb:Array Value)(p:(ByteArray×ByteArray)→Bool)(B:Nat)(w:World):Prop:=
 ∀W (x:(ByteArray×ByteArray)),FrB [] B w W→Calls prog g (#[.agg #[.string x.1,.string x.2]]++lb) W fun e w'=>e=.returned (.bool (p x))∧Fr [] W w'
theorem zm3(g:Nat)(lb:Array Value)(eg:∀args w,(callFunc g args).run prog w=.ok (.enter g args) w)(p:(ByteArray×ByteArray)→Bool)(D:Nat)(l:List (ByteArray×ByteArray))(A:Option Addr)(c B:Nat)(w:World)(hp:zof g lb p D w)(hl:l.length≤281474976710656)(hB:B≤w.heap.size)
  (hsl:Sl w B 2 (.slice A l.length c) l.length (z0f l)):
  Calls prog 292 #[.slice A l.length c,.func (Fn.func g) #[] lb] w fun e w'=>e=.returned (.int .i64 (z34 p l))∧Fr [] w w':=by
 have HS:=hid hsl;have HP:=hid hp;clear hsl hp;go_enter Tryz.func292,Tryz.ntmps292;go_wp2;go_loopg [5,8] l.length (fun g u i wr=>∃(k:Nat),g=l.length - k∧k≤l.length∧i=.int .i64 k∧(∀j t,j < k→l[j]? = some t→p t=false)∧Fr [] w wr)
 case atStart=>exact⟨0,rfl,Nat.zero_le _,rfl,fun j t hj=>absurd hj (Nat.not_lt_zero _),Fr.refl _ _⟩
 case round=>
  obtain⟨k,rfl,hk,rfl,hno,hf⟩:=hrel;by_cases hlt:k < l.length
  ·obtain⟨b,off,rfl,hb,hc,hm,hcell⟩:=HS.out.at_ (by omega);obtain⟨s,hs⟩:∃s,l[k]? = some s:=⟨_,List.getElem?_eq_getElem hlt⟩;have hc1:wr.cell? ⟨b,off+2 * k,none⟩=some (.string s.1):=hf.cell (hcell _ _ (z0l l k s hs).1) (by simp);have hc2:wr.cell? ⟨b,off+2 * k+1,none⟩=some (.string s.2):=hf.cell (hcell _ _ (z0l l k s hs).2) (by simp);rw[Nat.mul_comm 2 k] at hc1 hc2;have L:=hid (fun W (hW:Fr [] wr W)=>HP.out W s ((hf.toB D).trans (hW.toB D)));have HF:=hid hf;have F1:=hid (Fr.refl [] wr);by_cases hq:p s=true
   ·have E:=hid (z2i hno hs hq);rw[hq] at L;clear hno hcell hs hq hf;go_wp2_with fail;refine(L.out _ F1.out).mono ?_;rintro e w1 ⟨rfl,h1⟩;go_wp2;go_ret;rw[E.out];exact⟨rfl,HF.out.trans h1⟩
   ·have hq':p s=false:=by simpa using hq
    rw[hq'] at L
    have N:=hid (fun j t (hj:j < k+1) (ht:l[j]? = some t)=>(show p t=false by
     rcases Nat.lt_or_ge j k with h|h
     ·exact hno j t h ht
     ·have e:j=k:=by omega
      subst e;rw[hs] at ht;cases ht;exact hq'))
    clear hno hcell hs hq hq' hf;go_wp2_with fail;refine(L.out _ F1.out).mono ?_;rintro e w1 ⟨rfl,h1⟩;go_wp2;go_roundg (l.length - (k+1))
    case measure=>omega
    case rel=>exact⟨k+1,rfl,by omega,rfl,N.out,HF.out.trans h1⟩
  ·have E:=hid (z33 (q:=p) (l:=l) (fun j t ht=>hno j t (by have:=(List.getElem?_eq_some_iff.1 ht).1;omega) ht));clear hno;go_wp2;go_ret;rw[E.out];exact⟨rfl,hf⟩
def zij(ys:List (ByteArray×ByteArray))(base:Nat)(v:Value)(w:World)(e:Ending)(w':World):Prop:=
 ∃v',e=.returned v'∧w'.ownsRow base 108 2 v' ys.length (z0f ys)∧Fr (z2f v) w w'∧v'.ownBlock=v.ownBlock
theorem q0u:∀w,(zeroValue 108).run prog w=.ok (.agg #[.string ⟨#[]⟩,.string ⟨#[]⟩]) w:=fun w=>by kernel_rfl
theorem zp3(g:Nat)(lb:Array Value)(eg:∀args w,(callFunc g args).run prog w=.ok (.enter g args) w)(p:(ByteArray×ByteArray)→Bool)(D:Nat)(l:List (ByteArray×ByteArray))(base:Nat)(v:Value)(w:World)(hp:zof g lb p D w)(hD:D≤base)(hl:l.length≤1000000)
  (h:w.ownsRow base 108 2 v l.length (z0f l)):
  Calls prog 318 #[v,.func (Fn.func g) #[] lb] w (zij (l.filter fun x=>!p x) base v w):=by
 obtain⟨A,c,rfl,hA,hc,hm⟩:=z05 h;have I:=hid (zm3 g lb eg p D l A c w.heap.size w hp (by omega) (Nat.le_refl _) (z0s h));rcases z6p p l with⟨e1,e2⟩|⟨k0,s0,e1,hk0,hK⟩
 ·rw[e1] at I;have H:=hid h;have E2:=hid e2;clear h e1 e2 hp;go_enter Tryz.func318,Tryz.ntmps318;go_wp2_with fail;refine I.out.mono ?_;rintro e w1 ⟨rfl,h1⟩;go_wp2;go_ret;rw[E2.out];exact⟨_,rfl,z0p H.out h1 (by simp),h1.up,rfl⟩
 ·rw[e1] at I
  obtain⟨gb,rfl⟩:∃gb,A=some ⟨gb,0,none⟩:=by
   rcases hA with rfl|⟨gb,rfl⟩
   ·exfalso;rcases h.2 with⟨_,h0⟩|⟨g',cap',cur,h',_⟩
    ·omega
    ·cases h'
   ·exact⟨gb,rfl⟩
  have hgb:=(h.lt gb rfl);have H:=hid h;have HP:=hid hp;have HK:=hid hK;have hne1:((k0:Int)==-1)=false:=beq_eq_false_iff_ne.2 (by omega);unfold maxLen at hm;clear h hp hK e1 hA;go_enter Tryz.func318,Tryz.ntmps318;go_wp2_with fail;refine I.out.mono ?_;rintro e w1 ⟨rfl,h1⟩;have HF1:=hid h1;clear h1;go_wp2;go_loopg [5,6] (l.length - (k0+1)) (fun gg s5 s6 wr=>∃(i j:Nat) (d:List (ByteArray×ByteArray)),gg=l.length - j∧s5=.int .i64 i∧s6=.int .i64 j∧Kept p l d i j∧wr.ownsRow base 108 2 (.slice (some ⟨gb,0,none⟩) l.length c) l.length (z0f d)∧Fr [gb] w wr)
  case atStart=>exact⟨k0,k0+1,l,rfl,rfl,by go_num,HK.out,z0p H.out HF1.out (by simp),HF1.out.up⟩
  case round=>
   obtain⟨i,j,d,rfl,rfl,rfl,hK,hO,hF⟩:=hrel;have HK:=hid hK;have HO:=hid hO;have HF:=hid hF;have hij:=hK.lt;have hjl:=hK.le;have hdl:=hK.len;have hsz:=hF.size;clear I HF1;by_cases hlt:j < l.length
   ·obtain⟨s,hs⟩:∃s,l[j]? = some s:=⟨_,List.getElem?_eq_getElem hlt⟩;have hd:d[j]? = some s:=(hK.behind j (Nat.le_refl _)).trans hs;have L:=hid (fun W (hW:Fr [] wr W)=>HP.out W s ((hF.toB D).more (T:=[]) (by intro k hk;simp at hk;subst hk;exact .inr (by omega)) |>.trans (hW.toB D)))
    have HS:=hid hs;have x1:wr.cell? ⟨gb,j * 2,none⟩=some (.string s.1):=(hO.cellAt (j * 2) (by omega)).trans (by rw[Nat.mul_comm];exact(z0l d j s hd).1);have x2:wr.cell? ⟨gb,j * 2+1,none⟩=some (.string s.2):=(hO.cellAt (j * 2+1) (by omega)).trans (by rw[Nat.mul_comm];exact(z0l d j s hd).2);have F1:=hid ((Fr.refl [] wr).alloc (.cells #[.string s.1,.string s.2] 108));have V1:=hid (Whole.new wr 108 [.string s.1,.string s.2]);clear hK hO hF hs hd;by_cases hq:p s=true
    ·rw[hq] at L;have HQ:=hid hq;clear hq;go_wp2_with fail;refine(L.out _ F1.out).mono ?_;rintro e w2 ⟨rfl,h2⟩;have f2:=hid (F1.out.trans h2);clear h2;go_wp2;go_roundg (l.length - (j+1))
     case measure=>omega
     case rel=>exact⟨i,j+1,d,rfl,rfl,by go_num,HK.out.skip HS.out HQ.out,z0p HO.out f2.out (by simp),HF.out.trans f2.out.up⟩
    ·have hq':p s=false:=by simpa using hq
     rw[hq'] at L;have HQ:=hid hq';clear hq hq';obtain⟨s',hs'⟩:∃s',d[i]? = some s':=⟨_,List.getElem?_eq_getElem (by omega)⟩;have HS':=hid hs';clear hs';go_wp2_with fail;refine(L.out _ F1.out).mono ?_;rintro e w2 ⟨rfl,h2⟩;have f2:=hid (F1.out.trans h2);have HO2:=hid (z0p HO.out f2.out (by simp));have V2:=V1.out.fr h2 (by simp);have v1:w2.cell? ⟨wr.heap.size,0,none⟩=some (.string s.1):=V2.cell 0;have v2:w2.cell? ⟨wr.heap.size,1,none⟩=some (.string s.2):=V2.cell 1;have y1:w2.cell? ⟨gb,i * 2,none⟩=some (.string s'.1):=(HO2.out.cellAt (i * 2) (by omega)).trans (by rw[Nat.mul_comm];exact(z0l d i s' HS'.out).1);have y2:w2.cell? ⟨gb,i * 2+1,none⟩=some (.string s'.2):=(HO2.out.cellAt (i * 2+1) (by omega)).trans (by rw[Nat.mul_comm];exact(z0l d i s' HS'.out).2);have z1:w2.frozen? ⟨gb,i * 2,none⟩=false:=HO2.out.frozenAt _;have z2:w2.frozen? ⟨gb,i * 2+1,none⟩=false:=HO2.out.frozenAt _;clear V2;clear h2;go_wp2;go_roundg (l.length - (j+1))
     case measure=>omega
     case rel=>
      have o1:=HO2.out.stored (i * 2) (.string s.1);have o2:=o1.1.stored (i * 2+1) (.string s.2);exact⟨i+1,j+1,d.set i s,rfl,by go_num,by go_num,HK.out.keep HS.out HQ.out,by rw[zaw];exact o2.1,((HF.out.trans f2.out.up).setCell (p:=⟨gb,i * 2,none⟩) (.inl (by simp)) _).setCell (p:=⟨gb,i * 2+1,none⟩) (.inl (by simp)) _⟩
   ·obtain rfl:j=l.length:=by omega
    have hdone:=hK.done;obtain⟨cur,w0,l0,t0,hb0,_,_,hxl⟩:=z24 hO;obtain⟨zs,hzs⟩:∃zs,zs=(Builtin.zeroCells (Value.cells (.agg #[.string ⟨#[]⟩,.string ⟨#[]⟩])) (l.length - i)).toList:=⟨_,rfl⟩;have hzl:zs.length=(l.length - i) * 2:=by rw[hzs];simp[Builtin.zeroCells,Value.cells]
    have hcl:∀ty,(Builtin.clear_ #[62] ty #[.slice (some ⟨gb,i * 2,none⟩) (l.length - i) (c - i)]).run prog wr=.ok (.tuple #[]) (wr.setCells gb (i * 2) zs):=fun ty=>by
     have:=z3f (P:=prog) wr 62 108 ty (.agg #[.string ⟨#[]⟩,.string ⟨#[]⟩]) Tryz.underlying62 q0u (by intro u hu;simp[Value.cells] at hu;rcases hu with rfl|rfl <;> rfl) gb (i * 2) (l.length - i) (c - i) (by omega) (fun t ht=>by
      exact z0n w0 (o:=i * 2) (m:=(l.length - i) * 2) (by omega) t (by simpa[Value.cells] using ht))
     rw[←hzs] at this;exact this
    have W1:=z15 zs (i * 2) wr cur w0 (by omega);have O1:=z2w (cap:=c) (k:=2) (n:=i) (base:=base) W1 (by simp only[List.length_append,List.length_take,List.length_drop,l0,hzl];omega) hb0 (by omega) (by unfold maxLen;omega);rw[List.append_assoc,List.take_append_of_le_length (by rw[List.length_take];omega),List.take_take,Nat.min_eq_left (by omega)] at O1
    have e5:cur.take (i * 2)=z0f (l.filter fun x=>!p x):=by
     rw[←hdone,←z6u,←t0,List.take_take,Nat.min_eq_left (by omega)]
    have e6:i=(l.filter fun x=>!p x).length:=by rw[←hdone,List.length_take];omega
    rw[e5] at O1;have HO1:=hid O1;have HE:=hid e6;have G1:=hid (z08 (g:=gb) zs (i * 2) wr);have hic:i < c:=by omega
    clear hK hO hF w0 l0 t0 hb0 hxl hzs hzl W1 O1 e5 e6 hdone hdl HK HO;go_wp2;go_ret;have e6:=HE.out;refine⟨_,rfl,?_,?_,rfl⟩
    ·rw[←e6];exact HO1.out
    ·exact HF.out.grown G1.out (fun k hk=>by cases hk;exact .inl (by simp))
theorem zb3(x:Itm)(v:Value)(w:World)(B:Nat)(hs:x.Small)(hB:B≤w.heap.size)(h:z0r w B v x):
  Calls prog 313 #[v] w fun e w'=>e=.returned (.int .i64 (z02 4 x))∧Fr [] w w':=by
 have M:=hid (fun W (hf:Fr [] w W)=>zi4 x 4 v W B hs (Nat.le_trans hB hf.size) (h.fr hf hB (by simp)));obtain⟨A1,c1,A2,c2,A3,c3,rfl,h1,h2,h3⟩:=h;have F1:Fr [] w (w.alloc (.cells #[.int .i64 x.kind,.string x.text,.slice A1 x.list.length c1,.slice A2 x.pairs.length c2,.slice A3 x.scores.length c3] 65)):=(Fr.refl [] w).alloc _;go_enter Tryz.func313,Tryz.ntmps313;go_wp2_with fail;refine(M.out _ F1).mono ?_;rintro e w1 ⟨rfl,f1⟩;go_wp2;go_ret;exact⟨rfl,F1.trans f1⟩
def zh9(l:List (ByteArray×ByteArray)):Itm:=⟨4,⟨#[]⟩,[],l,[]⟩
theorem znm(l:List (ByteArray×ByteArray))(A:Option Addr)(c:Nat)(w:World)(B:Nat)(hs:(zh9 l).Small)(hB:B≤w.heap.size)(h:Sl w B 2 (.slice A l.length c) l.length (z0f l)):
  Calls prog 317 #[.slice A l.length c] w fun e w'=>e=.returned (if l.length=0 then .agg #[.int .i64 0,.string ⟨#[]⟩,.slice none 0 0,.slice none 0 0,.slice none 0 0] else .agg #[.int .i64 4,.string ⟨#[]⟩,.slice none 0 0,.slice A l.length c,.slice none 0 0])∧Fr [] w w':=by
 have hv:z0r w B (.agg #[.int .i64 4,.string ⟨#[]⟩,.slice none 0 0,.slice A l.length c,.slice none 0 0]) (zh9 l):=⟨none,0,A,c,none,0,rfl,Sl.nil _ _ _,h,Sl.nil _ _ _⟩;have O:=hid (fun W (hf:Fr [] w W)=>(show Calls prog 345 #[.agg #[.int .i64 4,.string ⟨#[]⟩,.slice none 0 0,.slice A l.length c,.slice none 0 0]] W fun e w'=>e=.returned (if l.length=0 then .agg #[.int .i64 0,.string ⟨#[]⟩,.slice none 0 0,.slice none 0 0,.slice none 0 0] else .agg #[.int .i64 4,.string ⟨#[]⟩,.slice none 0 0,.slice A l.length c,.slice none 0 0])∧Fr [] W w' from by have:=zm7 (zh9 l) (.agg #[.int .i64 4,.string ⟨#[]⟩,.slice none 0 0,.slice A l.length c,.slice none 0 0]) W B hs (Nat.le_trans hB hf.size) (hv.fr hf hB (by simp)) (show(4:Int)≠1 by decide);unfold ofV at this;rw[show many (zh9 l)=l.length from by show 0+l.length+0=l.length;omega] at this;exact this));have F1:Fr [] w (w.alloc (.cells #[.int .i64 0,.string ⟨#[]⟩,.slice none 0 0,.slice none 0 0,.slice none 0 0] 65)):=(Fr.refl [] w).alloc _;have R1:=hid (show Whole (w.alloc (.cells #[.int .i64 0,.string ⟨#[]⟩,.slice none 0 0,.slice none 0 0,.slice none 0 0] 65)) w.heap.size 65 [.int .i64 0,.string ⟨#[]⟩,.slice none 0 0,.slice none 0 0,.slice none 0 0] from Whole.new w _ _);clear hv h hs;by_cases hm:l.length=0
 ·rw[if_pos hm] at O ⊢;clear hm;go_enter Tryz.func317,Tryz.ntmps317;go_wp2_with fail;refine(O.out _ F1).mono ?_;rintro e w1 ⟨rfl,f1⟩;have F2:=F1.trans f1;have R2:=hid (R1.out.fr f1 (by simp));obtain⟨a0,a1,a2,a3,a4⟩:=five R2.out;obtain⟨b0,b2,b3,b4,b5⟩:=z12 R2.out;go_wp2;refine bodyPost_ret (v:=.agg #[.int .i64 0,.string ⟨#[]⟩,.slice none 0 0,.slice none 0 0,.slice none 0 0]) (by simp[results,Tryz.results317,go_sem,a0,a1,a2,a3,a4]) rfl ?_;refine⟨rfl,z42 F2 (Nat.le_refl _) _ _ _ _ _⟩
 ·rw[if_neg hm] at O ⊢;clear hm;go_enter Tryz.func317,Tryz.ntmps317;go_wp2_with fail;refine(O.out _ F1).mono ?_;rintro e w1 ⟨rfl,f1⟩;have F2:=F1.trans f1;have R2:=hid (R1.out.fr f1 (by simp));obtain⟨a0,a1,a2,a3,a4⟩:=five R2.out;obtain⟨b0,b2,b3,b4,b5⟩:=z12 R2.out;go_wp2;refine bodyPost_ret (v:=.agg #[.int .i64 4,.string ⟨#[]⟩,.slice none 0 0,.slice A l.length c,.slice none 0 0]) (by simp[results,Tryz.results317,go_sem,a0,a1,a2,a3,a4]) rfl ?_;refine⟨rfl,z42 F2 (Nat.le_refl _) _ _ _ _ _⟩
def ofP(l:List (ByteArray×ByteArray)):Itm:=if l.length=0 then z2p 0 else zh9 l
theorem zdm{l:List (ByteArray×ByteArray)}(hl:l.length≤1000000)(ht:∀s∈l,s.1.size≤281474976710656∧s.2.size≤281474976710656):(zh9 l).Small:=
 ⟨by show -9223372036854775808≤(4:Int)∧(4:Int)≤9223372036854775807;omega,by show(⟨#[]⟩:ByteArray).size≤_;decide,by show 0≤_;omega,by show l.length≤_;omega,by show 0≤_;omega,(fun p hp=>by cases hp),ht,(fun p hp=>by cases hp)⟩
def OwnI4(base:Nat)(x:Itm)(w:World)(e:Ending)(w':World):Prop:=∃u,e=.returned u∧z0q w' base u x∧Fr [] w w'
theorem zf7(l:List (ByteArray×ByteArray))(base:Nat)(v:Value)(w:World)(hl:l.length≤1000000)(ht:∀s∈l,s.1.size≤281474976710656∧s.2.size≤281474976710656)(h:w.ownsRow base 108 2 v l.length (z0f l)):
  Calls prog 317 #[v] w (OwnI4 base (ofP l) w):=by
 obtain⟨A,c,rfl,-⟩:=z05 h;refine(znm l A c w w.heap.size (zdm hl ht) (Nat.le_refl _) (z0s h)).mono ?_;rintro e w' ⟨rfl,hf⟩;unfold ofP;by_cases h0:l.length=0
 ·rw[if_pos h0,if_pos h0];exact⟨_,rfl,z0q.nothing _ _,hf⟩
 ·rw[if_neg h0,if_neg h0];exact⟨_,rfl,⟨_,_,_,rfl,⟨rfl,.inl ⟨rfl,rfl⟩⟩,z0p h hf (by simp),⟨rfl,.inl ⟨rfl,rfl⟩⟩⟩,hf⟩
theorem zw5(a b:ByteArray)(w:World):Calls prog 314 #[.agg #[.string a,.string b]] w fun e w'=>e=.returned (.bool (decide (60 < a.size)||decide (60 < b.size)))∧Fr [] w w':=by
 have L1:=hid (fun W=>z2r a W);have L2:=hid (fun W=>z2r b W);by_cases h:60 < a.size
 ·rw[decide_eq_true h] at L1 ⊢;go_enter Tryz.func314,Tryz.ntmps314;go_wp2_with fail;refine(L1.out _).mono ?_;rintro e w1 ⟨rfl,rfl⟩;go_wp2;go_ret;exact⟨rfl,(Fr.refl [] w).alloc _⟩
 ·rw[decide_eq_false h] at L1 ⊢;go_enter Tryz.func314,Tryz.ntmps314;go_wp2_with fail;refine(L1.out _).mono ?_;rintro e w1 ⟨rfl,rfl⟩;go_wp2_with fail;refine(L2.out _).mono ?_;rintro e w1 ⟨rfl,rfl⟩;go_wp2;go_ret;exact⟨rfl,(Fr.refl [] w).alloc _⟩
theorem zq9(D:Nat)(w:World):zof 314 #[] z4n D w:=fun W x hW=>zw5 x.1 x.2 W
theorem zqe(g:Nat)(lb:Array Value)(eg:∀args w,(callFunc g args).run prog w=.ok (.enter g args) w)(p:(ByteArray×ByteArray)→Bool)(D:Nat)(l:List (ByteArray×ByteArray))(A:Option Addr)(c B:Nat)(w:World)(hp:zof g lb p D w)(hl:l.length≤281474976710656)(hB:B≤w.heap.size)
  (hsl:Sl w B 2 (.slice A l.length c) l.length (z0f l)):
  Calls prog 222 #[.slice A l.length c,.func (Fn.func g) #[] lb] w fun e w'=>e=.returned (.bool (l.any p))∧Fr [] w w':=by
 have I:=hid (zm3 g lb eg p D l A c B w hp hl hB hsl);have h:=z7l p l;clear hsl hp;generalize z34 p l=r at *;generalize l.any p=b at *;generalize l.length=n at *;cases b
 ·have hr:r < 0:=by simpa using h
  clear h;go_enter Tryz.func222,Tryz.ntmps222;go_wp2_with fail;refine I.out.mono ?_;rintro e w1 ⟨rfl,h1⟩;go_wp2;go_ret;exact⟨by simp <;> omega,h1⟩
 ·have hr:0≤r:=by simpa using h
  clear h;go_enter Tryz.func222,Tryz.ntmps222;go_wp2_with fail;refine I.out.mono ?_;rintro e w1 ⟨rfl,h1⟩;go_wp2;go_ret;exact⟨by simp <;> omega,h1⟩
theorem zry(x:ByteArray×ByteArray)(l:List ByteArray)(A:Option Addr)(c g B:Nat)(w:World)(hl:l.length≤281474976710656)(hB:B≤w.heap.size)(h:Sl w B 1 (.slice A l.length c) l.length (z04 l))(hg:w.cell? ⟨g,0,none⟩=some (.slice A l.length c)):
  Calls prog 319 (#[.agg #[.string x.1,.string x.2]]++#[.pointer (some ⟨g,0,none⟩)]) w fun e w'=>e=.returned (.bool (l.any fun y=>decide (y=x.1)))∧Fr [] w w':=by
 have F1:Fr [] w (w.alloc (.cells #[.string x.1,.string x.2] 108)):=(Fr.refl [] w).alloc _;have V1:=hid (show Whole (w.alloc (.cells #[.string x.1,.string x.2] 108)) w.heap.size 108 [.string x.1,.string x.2] from Whole.new w _ _);have CT:=hid (fun W (hf:Fr [] w W)=>z72 l x.1 A c B W hl (Nat.le_trans hB hf.size) (h.fr hf hB (by simp)));have hgl:g < w.heap.size:=World.block_lt_of_cell? w _ hg;have hg1:(w.alloc (.cells #[.string x.1,.string x.2] 108)).cell? ⟨g,0,none⟩=some (.slice A l.length c):=F1.cell hg (by simp);have c0:(w.alloc (.cells #[.string x.1,.string x.2] 108)).cell? ⟨w.heap.size,0,none⟩=some (.string x.1):=V1.out.cell 0;generalize (l.any fun y=>decide (y=x.1))=b at *;clear h hg;go_enter Tryz.func319,Tryz.ntmps319;go_wp2_with fail;refine(CT.out _ F1).mono ?_;rintro e w1 ⟨rfl,rfl⟩;go_wp2;go_ret;exact⟨rfl,F1⟩
theorem zo6(l:List ByteArray)(A:Option Addr)(c g D:Nat)(w:World)(hl:l.length≤281474976710656)(hD:D≤w.heap.size)(h:Sl w D 1 (.slice A l.length c) l.length (z04 l))(hc:w.cell? ⟨g,0,none⟩=some (.slice A l.length c))(hg:g < D):
  zof 319 #[.pointer (some ⟨g,0,none⟩)] (fun x=>l.any fun y=>decide (y=x.1)) D w:=
 fun W x hW=>zry x l A c g D W hl (Nat.le_trans hD hW.size) (zs2 h hW (Nat.le_refl _)) (z4q hW hc hg (by simp))
end Go.Proofs.YtmalkppcahogjaaGreatDoor
namespace Go.Proofs.YtmalkppcahogjaaGreatDoor
open Lib (hid)
open Go.Proofs.Tryz (prog)
section
variable {α:Type} (key:α→ByteArray)
def zrj(l:List α)(f:ByteArray):Option α:=l.find? fun q=>decide (key q=f)
theorem zgj{l:List α}{f:ByteArray}{q:α}(h:zrj key l f=some q):q∈l∧key q=f:=⟨List.mem_of_find?_eq_some h,by have:=List.find?_some h;simpa using this⟩
theorem zp4{l:List α}{f:ByteArray}(h:zrj key l f=none):∀q∈l,key q≠f:=fun q hq=>by
 have:=List.find?_eq_none.1 h q hq;simpa using this
theorem ztw{l:List α}{f:ByteArray}(hr:rises (ltK key) l=true)(h:z5y key l f=true):l[z1x key l f]? = zrj key l f∧(zrj key l f).isSome=true:=by
 obtain⟨q,hq,he⟩:=(z32 key).1 h;have hm:=List.mem_of_getElem? hq;cases hg:zrj key l f with
 | none=>exact absurd he (zp4 key hg q hm)
 | some q'=>
  obtain⟨hm',he'⟩:=zgj key hg;obtain⟨k,hk⟩:=List.getElem?_of_mem hm';have e1:=zf4 key hr hk;rw[he'] at e1;rw[e1,hk];exact⟨rfl,rfl⟩
theorem zsx{l:List α}{f:ByteArray}(hr:rises (ltK key) l=true)(h:z5y key l f=false):zrj key l f=none:=by
 cases hg:zrj key l f with
 | none=>rfl
 | some q'=>
  obtain⟨hm',he'⟩:=zgj key hg;obtain⟨k,hk⟩:=List.getElem?_of_mem hm';have:=zcm key hr hk;rw[he',h] at this;cases this
theorem zao:∀(l:List α) {xs:List α},rises (ltK key) xs=true→rises (ltK key) (l.foldl (zbw key) xs)=true
 | [],_,h=>h
 | p :: r,_,h=>zao r (zf0 key p h)
theorem zca:∀(l:List α) {xs:List α} {q:α},q∈l.foldl (zbw key) xs→q∈l∨q∈xs
 | [],_,_,h=>.inr h
 | p :: r,_,_,h=>by
  rcases zca r h with h|h
  ·exact .inl (.tail _ h)
  ·rcases zta key h with rfl|h
   ·exact .inl (.head _)
   ·exact .inr h
theorem zty(l:List α)(p:α):l.length≤(zbw key l p).length∧(zbw key l p).length≤l.length+1:=by
 rw[zkk];split <;> omega
theorem zle:∀(l xs:List α),(l.foldl (zbw key) xs).length≤xs.length+l.length∧xs.length≤(l.foldl (zbw key) xs).length
 | [],xs=>⟨Nat.le_refl _,Nat.le_refl _⟩
 | p :: r,xs=>by
  have h1:=zle r (zbw key xs p);have h2:=zty key xs p;rw[List.foldl_cons,List.length_cons];omega
end
def zqo(x:Itm)(l:List (ByteArray×ByteArray)):List (ByteArray×ByteArray):=l.foldl (zbw Prod.fst) x.pairs
def z1w(x:Itm)(l:List (ByteArray×ByteArray)):Int:=if z02 4 x≠0 then z02 4 x else if l.length=0 then 1 else if l.any z4n=true then 2 else 0
def z1p(x:Itm)(l:List (ByteArray×ByteArray)):Int:=if z1w x l≠0 then z1w x l else if 24 < (zqo x l).length then 2 else 0
def zlk(x:Itm)(l:List (ByteArray×ByteArray)):Itm:=if z1p x l=0 then ofP (zqo x l) else z2p 0
def zt7(x:Itm)(l:List (ByteArray×ByteArray)):Int:=if z1p x l=0 then ((zqo x l).length:Int) - x.pairs.length else 0
def z56(x:Itm)(f:ByteArray):Int:=if z02 4 x≠0 then z02 4 x else match zrj Prod.fst x.pairs f with|some _=>0|none=>5
def zt4(x:Itm)(f:ByteArray):ByteArray:=if z02 4 x≠0 then ⟨#[]⟩ else match zrj Prod.fst x.pairs f with|some q=>q.2|none=>⟨#[]⟩
def zaq(x:Itm)(l:List ByteArray):List (ByteArray×ByteArray):=x.pairs.filter fun p=>!(l.any fun y=>decide (y=p.1))
def zaj(x:Itm)(l:List ByteArray):Itm:=if z02 4 x=0 then ofP (zaq x l) else z2p 0
def zek(x:Itm)(l:List ByteArray):Int:=if z02 4 x=0 then (x.pairs.length:Int) - (zaq x l).length else 0
theorem z83{x:Itm}(h:z02 4 x=0):rises (ltK Prod.fst) x.pairs=true:=by
 have hok:=z1j h;rcases hok.kind with h0|h4
 ·have hm:=hok.none h0;unfold many at hm;have:x.pairs=[]:=List.eq_nil_of_length_eq_zero (by omega);rw[this];rfl
 ·have hc:=hok.some (by omega);have hb:=hok.bare;unfold z0e at hc;rw[if_neg (by omega),if_neg (by rw[hb];decide),if_neg (by omega)] at hc;by_cases hm:many x=0
  ·rw[if_pos hm] at hc;cases hc
  ·rw[if_neg hm] at hc;by_cases h2:24 < many x∨z97 x=true
   ·rw[if_pos h2] at hc;cases hc
   ·rw[if_neg h2] at hc;by_cases h3:(x.kind=3∧rises ltS x.list=false)∨(x.kind=4∧rises ltP x.pairs=false)
    ·rw[if_pos h3] at hc;cases hc
    ·have:¬rises ltP x.pairs=false:=fun e=>h3 (.inr ⟨h4,e⟩);have:rises ltP x.pairs=true:=by simpa using this
     exact this
theorem z9p{x:Itm}(h:z02 4 x=0):x.pairs.length≤24∧∀p∈x.pairs,p.1.size≤60∧p.2.size≤60:=by
 have hok:=z1j h;have:=hok.le24;unfold many at this;exact⟨by omega,hok.fields⟩
theorem zg2{l:List (ByteArray×ByteArray)}(h:¬l.any z4n=true):∀p∈l,p.1.size≤60∧p.2.size≤60:=by
 intro p hp;rw[Bool.not_eq_true,List.any_eq_false] at h;have:=h p hp;unfold z4n at this;simp at this;omega
theorem zya{a b:Int×ByteArray}(h:z94 a b=0):a=b:=by
 unfold z94 at h;by_cases h1:a.1=b.1
 ·rw[if_pos h1] at h;exact Prod.ext h1 (z8q h)
 ·rw[if_neg h1] at h;omega
theorem zrd(a b:Int×ByteArray):z94 b a=- z94 a b:=by
 unfold z94;by_cases h1:a.1=b.1
 ·rw[if_pos h1,if_pos h1.symm];exact z63 _ _
 ·rw[if_neg h1,if_neg (fun h=>h1 h.symm)];omega
theorem zer{a b c:Int×ByteArray}(h1:z94 a b < 0)(h2:z94 b c < 0):z94 a c < 0:=by
 unfold z94 at *;by_cases e1:a.1=b.1
 ·rw[if_pos e1] at h1;by_cases e2:b.1=c.1
  ·rw[if_pos e2] at h2;rw[if_pos (e1.trans e2)];exact z54 h1 h2
  ·rw[if_neg e2] at h2;rw[if_neg (by omega)];omega
 ·rw[if_neg e1] at h1;by_cases e2:b.1=c.1
  ·rw[if_neg (by omega)];omega
  ·rw[if_neg e2] at h2;rw[if_neg (by omega)];omega
theorem z9m(a b c:Int×ByteArray)(h1:ltC a b=true)(h2:ltC b c=true):ltC a c=true:=
 decide_eq_true (zer (of_decide_eq_true h1) (of_decide_eq_true h2))
def z7d(l:List (Int×ByteArray))(s:Int×ByteArray):Nat:=(l.takeWhile fun q=>decide (z94 q s < 0)).length
theorem zgn(l:List (Int×ByteArray))(s:Int×ByteArray):z7d l s≤l.length:=(List.takeWhile_sublist _).length_le
theorem zjk:∀ {l:List (Int×ByteArray)} {s:Int×ByteArray} {k:Nat} {q:Int×ByteArray},k < z7d l s→l[k]? = some q→z94 q s < 0
 | [],s,k,q,h,hq=>by simp at hq
 | x :: r,s,k,q,h,hq=>by
  unfold z7d at h;rw[List.takeWhile_cons] at h;by_cases hx:z94 x s < 0
  ·rw[if_pos (by simpa using hx)] at h
   match k with
   | 0=>rw[List.getElem?_cons_zero] at hq;cases hq;exact hx
   | k'+1=>
    rw[List.getElem?_cons_succ] at hq;exact zjk (l:=r) (k:=k') (by unfold z7d;simp at h;omega) hq
  ·rw[if_neg (by simpa using hx)] at h;simp at h
theorem zsg:∀ {l:List (Int×ByteArray)} {s q:Int×ByteArray},l[z7d l s]? = some q→¬z94 q s < 0
 | [],s,q,hq=>by simp at hq
 | x :: r,s,q,hq=>by
  unfold z7d at hq;rw[List.takeWhile_cons] at hq;by_cases hx:z94 x s < 0
  ·rw[if_pos (by simpa using hx),List.length_cons,List.getElem?_cons_succ] at hq;exact zsg (l:=r) hq
  ·rw[if_neg (by simpa using hx)] at hq;simp at hq;rw[←hq];exact hx
theorem zpm{l:List (Int×ByteArray)}{s:Int×ByteArray}{k:Nat}{q:Int×ByteArray}(hr:rises ltC l=true)(hk:z7d l s≤k)(hq:l[k]? = some q):¬z94 q s < 0:=by
 obtain⟨hlt,_⟩:=List.getElem?_eq_some_iff.1 hq;obtain⟨q0,h0⟩:∃q0,l[z7d l s]? = some q0:=⟨_,List.getElem?_eq_getElem (by omega)⟩;have n0:=zsg h0;rcases Nat.lt_or_ge (z7d l s) k with h|h
 ·intro hlt;have:=of_decide_eq_true (z6t z9m hr h h0 hq);exact n0 (zer this hlt)
 ·have e:k=z7d l s:=by omega
  rw[e,h0] at hq;cases hq;exact n0
def zt2(l:List (Int×ByteArray))(s:Int×ByteArray):List (Int×ByteArray):=l.take (z7d l s)++s :: l.drop (z7d l s)
def zwf(l:List (Int×ByteArray))(m:ByteArray):List (Int×ByteArray):=l.filter fun q=>!decide (q.2=m)
def zgw(l:List (Int×ByteArray))(s:Int×ByteArray):List (Int×ByteArray):=zt2 (zwf l s.2) s
structure z8i(l:List (Int×ByteArray)):Prop where
 rise:rises ltC l=true
 dist:(l.map (·.2)).Nodup
 ok:∀s∈l,z0i s.1=true∧s.2.size≤60
theorem z8i.nil:z8i []:=⟨rfl,List.nodup_nil,fun s h=>by cases h⟩
theorem z8i.sub{l l':List (Int×ByteArray)}(h:z8i l)(hs:l'.Sublist l):z8i l':=
 ⟨z3q ((z3b z9m h.rise).sublist hs),h.dist.sublist (hs.map _),fun s hs'=>h.ok s (hs.subset hs')⟩
theorem z8i.off{l:List (Int×ByteArray)}(h:z8i l)(m:ByteArray):z8i (zwf l m):=h.sub List.filter_sublist
theorem zro(l:List (Int×ByteArray))(m:ByteArray):∀q∈zwf l m,q.2≠m:=by
 intro q hq;have:=(List.mem_filter.1 hq).2;simpa using this
theorem zgv(l:List (Int×ByteArray))(m:ByteArray):(zwf l m).length≤l.length:=List.length_filter_le _ _
theorem zu1(l:List (Int×ByteArray))(s:Int×ByteArray):(zt2 l s).length=l.length+1:=by
 have:=zgn l s;unfold zt2;rw[List.length_append,List.length_cons,List.length_take,List.length_drop];omega
theorem zuv{l:List (Int×ByteArray)}{s q:Int×ByteArray}:q∈zt2 l s↔q=s∨q∈l:=by
 unfold zt2;rw[List.mem_append,List.mem_cons];constructor
 ·rintro(h|h|h)
  ·exact .inr (List.mem_of_mem_take h)
  ·exact .inl h
  ·exact .inr (List.mem_of_mem_drop h)
 ·rintro(h|h)
  ·exact .inr (.inl h)
  ·rw[←List.take_append_drop (z7d l s) l] at h;rcases List.mem_append.1 h with h|h
   ·exact .inl h
   ·exact .inr (.inr h)
theorem z8i.ins{l:List (Int×ByteArray)}{s:Int×ByteArray}(h:z8i l)(hn:∀q∈l,q.2≠s.2)(hs:z0i s.1=true∧s.2.size≤60):z8i (zt2 l s):=by
 have hpw:=z3b z9m h.rise
 have hlow:∀q∈l.take (z7d l s),ltC q s=true:=by
  intro q hq;obtain⟨j,hj⟩:=List.getElem?_of_mem hq;rw[List.getElem?_take] at hj;split at hj
  ·rename_i hlt;exact decide_eq_true (zjk hlt hj)
  ·cases hj
 have hhigh:∀q∈l.drop (z7d l s),ltC s q=true:=by
  intro q hq;obtain⟨j,hj⟩:=List.getElem?_of_mem hq;rw[List.getElem?_drop] at hj;have h1:=zpm h.rise (Nat.le_add_right (z7d l s) j) hj;have h2:=zrd s q;rcases Int.lt_trichotomy (z94 s q) 0 with h3|h3|h3
  ·exact decide_eq_true h3
  ·exact absurd (congrArg Prod.snd (zya h3)).symm (hn q (List.mem_of_mem_drop hq))
  ·omega
 refine⟨z3q ?_,?_,fun q hq=>?_⟩
 ·unfold zt2;rw[List.pairwise_append];refine⟨hpw.sublist (List.take_sublist _ _),List.pairwise_cons.2 ⟨hhigh,hpw.sublist (List.drop_sublist _ _)⟩,?_⟩;intro a ha b hb;rcases List.mem_cons.1 hb with rfl|hb
  ·exact hlow a ha
  ·exact z9m _ _ _ (hlow a ha) (hhigh b hb)
 ·unfold zt2
  have hp:(l.take (z7d l s)++s :: l.drop (z7d l s)).Perm (s :: l):=by
   have:=List.perm_middle (a:=s) (l₁:=l.take (z7d l s)) (l₂:=l.drop (z7d l s));rw[List.take_append_drop] at this;exact this
  rw[(hp.map (·.2)).nodup_iff,List.map_cons,List.nodup_cons];refine⟨fun hm=>?_,h.dist⟩;obtain⟨q,hq,he⟩:=List.mem_map.1 hm;exact hn q hq he
 ·rcases zuv.1 hq with rfl|hq
  ·exact hs
  ·exact h.ok q hq
theorem z8i.put{l:List (Int×ByteArray)}{s:Int×ByteArray}(h:z8i l)(hs:z0i s.1=true∧s.2.size≤60):z8i (zgw l s):=(h.off s.2).ins (zro l s.2) hs
theorem z8i.fold:∀(l:List (Int×ByteArray)) {xs:List (Int×ByteArray)},z8i xs→(∀s∈l,z0i s.1=true∧s.2.size≤60)→z8i (l.foldl zgw xs)
 | [],_,h,_=>h
 | s :: r,_,h,hs=>z8i.fold r (h.put (hs s (.head _))) (fun q hq=>hs q (.tail _ hq))
theorem zvp(l:List (Int×ByteArray))(s:Int×ByteArray):(zgw l s).length≤l.length+1:=by
 have:=zgv l s.2;unfold zgw;rw[zu1];omega
theorem zi6:∀(l xs:List (Int×ByteArray)),(l.foldl zgw xs).length≤xs.length+l.length
 | [],xs=>Nat.le_refl _
 | s :: r,xs=>by
  have h1:=zi6 r (zgw xs s);have h2:=zvp xs s;rw[List.foldl_cons,List.length_cons];omega
theorem ztp{l:List (Int×ByteArray)}{m:ByteArray}{k:Nat}{s:Int×ByteArray}(hd:(l.map (·.2)).Nodup)(hk:l[k]? = some s)(hm:s.2=m):zwf l m=l.take k++l.drop (k+1):=by
 obtain⟨hlt,he⟩:=List.getElem?_eq_some_iff.1 hk;have e:l=l.take k++s :: l.drop (k+1):=by rw[←he,←List.drop_eq_getElem_cons hlt,List.take_append_drop]
 generalize l.take k=a at *;generalize l.drop (k+1)=b at *;subst hm;rw[e,List.map_append,List.map_cons] at hd;rw[e];have h2:=(List.nodup_append.1 hd);have h3:=List.nodup_cons.1 h2.2.1;unfold zwf;rw[List.filter_append,List.filter_cons];simp only[decide_true,Bool.not_true,Bool.false_eq_true,if_false];rw[List.filter_eq_self.2,List.filter_eq_self.2]
 ·intro q hq;have:q.2≠s.2:=fun he=>h3.1 (by rw[←he];exact List.mem_map_of_mem hq);simpa using this
 ·intro q hq;have:q.2≠s.2:=fun he=>h2.2.2 q.2 (List.mem_map_of_mem hq) s.2 (.head _) he;simpa using this
theorem zv4{l:List (Int×ByteArray)}{m:ByteArray}(h:∀q∈l,q.2≠m):zwf l m=l:=by
 unfold zwf;rw[List.filter_eq_self];intro q hq;simpa using h q hq
theorem zdh(m:ByteArray)(l:List (Int×ByteArray)):(z34 (fun q:Int×ByteArray=>decide (q.2=m)) l=-1∧∀q∈l,q.2≠m)∨∃(k:Nat) (s:Int×ByteArray),z34 (fun q:Int×ByteArray=>decide (q.2=m)) l=k∧l[k]? = some s∧s.2=m∧∀(j:Nat) t,j < k→l[j]? = some t→t.2≠m:=by
 cases h:l.findIdx? (fun q:Int×ByteArray=>decide (q.2=m)) with
 | none=>
  refine .inl ⟨by unfold z34;rw[h],fun q hq=>?_⟩;have:=List.findIdx?_eq_none_iff.1 h q hq;simpa using this
 | some k=>
  obtain⟨hlt,hp,hno⟩:=List.findIdx?_eq_some_iff_getElem.1 h;refine .inr ⟨k,l[k],by unfold z34;rw[h],List.getElem?_eq_getElem hlt,by simpa using hp,fun j t hj ht=>?_⟩;obtain⟨hjl,rfl⟩:=List.getElem?_eq_some_iff.1 ht;have:=hno j hj;simpa using this
def zc1:List (Int×ByteArray)→Int
 | []=>0
 | s :: r=>if z0i s.1=false then 3 else if 60 < s.2.size then 2 else zc1 r
theorem zoc{l:List (Int×ByteArray)}{k:Nat}{s:Int×ByteArray}(h:l[k]? = some s):zc1 (l.drop k)=if z0i s.1=false then 3 else if 60 < s.2.size then 2 else zc1 (l.drop (k+1)):=by
 obtain⟨hlt,rfl⟩:=List.getElem?_eq_some_iff.1 h;rw[List.drop_eq_getElem_cons hlt];rfl
theorem zp2{l:List (Int×ByteArray)}{k:Nat}(h:l.length≤k):zc1 (l.drop k)=0:=by
 rw[List.drop_of_length_le h];rfl
theorem zmh:∀ {l:List (Int×ByteArray)},zc1 l=0→∀s∈l,z0i s.1=true∧s.2.size≤60
 | [],_,s,hs=>by cases hs
 | q :: r,h,s,hs=>by
  unfold zc1 at h;by_cases h1:z0i q.1=false
  ·rw[if_pos h1] at h;cases h
  ·rw[if_neg h1] at h;by_cases h2:60 < q.2.size
   ·rw[if_pos h2] at h;cases h
   ·rw[if_neg h2] at h;rcases List.mem_cons.1 hs with rfl|hs
    ·exact⟨by simpa using h1,by omega⟩
    ·exact zmh h s hs
def z3z(l:List (Int×ByteArray)):Int:=if l.length=0 then 1 else zc1 l
theorem zb2{l:List (Int×ByteArray)}(h:z3z l=0):l.length≠0∧∀s∈l,z0i s.1=true∧s.2.size≤60:=by
 unfold z3z at h;by_cases h0:l.length=0
 ·rw[if_pos h0] at h;cases h
 ·rw[if_neg h0] at h;exact⟨h0,zmh h⟩
def zbl(l:List (Int×ByteArray)):Itm:=⟨5,⟨#[]⟩,[],[],l⟩
def ofC(l:List (Int×ByteArray)):Itm:=if l.length=0 then z2p 0 else zbl l
def zdf(x:Itm)(l:List (Int×ByteArray)):List (Int×ByteArray):=l.foldl zgw x.scores
def zln(x:Itm)(l:List (Int×ByteArray)):Int:=if z02 5 x≠0 then z02 5 x else z3z l
def zbv(x:Itm)(l:List (Int×ByteArray)):Int:=if zln x l≠0 then zln x l else if 24 < (zdf x l).length then 2 else 0
def z9q(x:Itm)(l:List (Int×ByteArray)):Itm:=if zbv x l=0 then ofC (zdf x l) else z2p 0
def zep(x:Itm)(l:List (Int×ByteArray)):Int:=if zbv x l=0 then ((zdf x l).length:Int) - x.scores.length else 0
def z8p(x:Itm)(l:List ByteArray):List (Int×ByteArray):=x.scores.filter fun p=>!(l.any fun y=>decide (y=p.2))
def z6g(x:Itm)(l:List ByteArray):Itm:=if z02 5 x=0 then ofC (z8p x l) else z2p 0
def z95(x:Itm)(l:List ByteArray):Int:=if z02 5 x=0 then (x.scores.length:Int) - (z8p x l).length else 0
def z6f(x:Itm)(m:ByteArray):Int:=z34 (fun q:Int×ByteArray=>decide (q.2=m)) x.scores
def z17(x:Itm)(m:ByteArray):Int:=if z02 5 x≠0 then z02 5 x else if z6f x m < 0 then 5 else 0
def za8(x:Itm)(m:ByteArray):Int:=if z17 x m=0 then z6f x m else 0
def zpc(x:Itm)(m:ByteArray):Int:=if z17 x m=0 then (x.scores.getD (z6f x m).toNat (0,⟨#[]⟩)).1 else 0
def z6b(x:Itm)(f t:Int):List ByteArray:=if z02 5 x=0 then z25 (x.scores.map (·.2)) f t else []
def z6i(l:List (Int×ByteArray))(a b:Int):List ByteArray:=(l.filter fun s=>decide (a≤s.1)&&decide (s.1≤b)).map (·.2)
def z3x(x:Itm)(a b:Int):List ByteArray:=if z02 5 x=0 then z6i x.scores a b else []
theorem z2v{x:Itm}(h:z02 5 x=0):z8i x.scores∧x.scores.length≤24:=by
 have hok:=z1j h;have h24:x.scores.length≤24:=by have:=hok.le24;unfold many at this;omega
 refine⟨?_,h24⟩;rcases hok.kind with h0|h5
 ·have hm:=hok.none h0;unfold many at hm;have:x.scores=[]:=List.eq_nil_of_length_eq_zero (by omega);rw[this];exact z8i.nil
 ·have hc:=hok.some (by omega);have hb:=hok.bare;unfold z0e at hc;rw[if_neg (by omega),if_neg (by rw[hb];decide),if_neg (by omega)] at hc;by_cases hm:many x=0
  ·rw[if_pos hm] at hc;cases hc
  ·rw[if_neg hm] at hc;by_cases h2:24 < many x∨z97 x=true
   ·rw[if_pos h2] at hc;cases hc
   ·rw[if_neg h2,if_neg (by omega)] at hc;unfold z1h at hc;by_cases c1:(x.scores.any fun p=>!z0i p.1)=true
    ·rw[if_pos c1] at hc;cases hc
    ·rw[if_neg c1] at hc;by_cases c2:(x.scores.map (·.2)).Nodup
     ·rw[if_neg (fun h=>h c2)] at hc;by_cases c3:rises ltC x.scores=true
      ·exact⟨c3,c2,hok.members⟩
      ·rw[if_neg c3] at hc;cases hc
     ·rw[if_pos c2] at hc;cases hc
theorem z8i.small{l:List (Int×ByteArray)}(h:z8i l):∀s∈l,(-9223372036854775808≤s.1∧s.1≤9223372036854775807)∧s.2.size≤281474976710656:=fun s hs=>by
 obtain⟨h1,h2⟩:=h.ok s hs;unfold z0i at h1;simp at h1;omega
theorem zbr{l:List (Int×ByteArray)}(hl:l.length≤1000000)(ht:∀s∈l,(-9223372036854775808≤s.1∧s.1≤9223372036854775807)∧s.2.size≤281474976710656):(zbl l).Small:=
 ⟨by show -9223372036854775808≤(5:Int)∧(5:Int)≤9223372036854775807;omega,by show(⟨#[]⟩:ByteArray).size≤_;decide,by show 0≤_;omega,by show 0≤_;omega,by show l.length≤_;omega,(fun p hp=>by cases hp),(fun p hp=>by cases hp),ht⟩
theorem zqi{x:Itm}{l:List (Int×ByteArray)}(h:zln x l=0):z02 5 x=0∧z3z l=0:=by
 unfold zln at h;by_cases ha:z02 5 x=0
 ·rw[if_neg (by simpa using ha)] at h;exact⟨ha,h⟩
 ·rw[if_pos ha] at h;exact absurd h ha
theorem zx1{x:Itm}{l:List (Int×ByteArray)}(h:zbv x l=0):zln x l=0∧(zdf x l).length≤24:=by
 unfold zbv at h;by_cases ha:zln x l=0
 ·rw[if_neg (by simpa using ha)] at h;by_cases hb:24 < (zdf x l).length
  ·rw[if_pos hb] at h;cases h
  ·exact⟨ha,by omega⟩
 ·rw[if_pos ha] at h;exact absurd h ha
theorem zug{x:Itm}{l:List (Int×ByteArray)}(h:zln x l=0):z8i (zdf x l):=by
 obtain⟨ha,hs⟩:=zqi h;exact z8i.fold l (z2v ha).1 (zb2 hs).2
theorem zii{l:List (Int×ByteArray)}(hl:l.length≤1000000)(h:z8i l):(ofC l).Small:=by
 unfold ofC;split
 ·exact z1c 0 (by decide)
 ·exact zbr hl h.small
theorem zjx(x:Itm)(l:List (Int×ByteArray)):(z9q x l).Small:=by
 unfold z9q;split
 ·rename_i h;obtain⟨hp,h24⟩:=zx1 h;exact zii (by omega) (zug hp)
 ·exact z1c 0 (by decide)
theorem zm0{x:Itm}(l:List ByteArray)(h:z02 5 x=0):z8i (z8p x l)∧(z8p x l).length≤24:=by
 obtain⟨h1,h2⟩:=z2v h;have:=List.length_filter_le (fun p:Int×ByteArray=>!(l.any fun y=>decide (y=p.2))) x.scores;exact⟨h1.sub List.filter_sublist,by unfold z8p;omega⟩
theorem zhl(x:Itm)(l:List ByteArray):(z6g x l).Small:=by
 unfold z6g;split
 ·rename_i h;have:=zm0 l h;exact zii (by omega) this.1
 ·exact z1c 0 (by decide)
def z6d(p:Nat→Int×ByteArray→Bool)(l:List (Int×ByteArray)):Nat→List ByteArray
 | 0=>[]
 | k+1=>match l[k]? with
  | some s=>if p k s=true then z6d p l k++[s.2] else z6d p l k
  | none=>z6d p l k
theorem zau{p:Nat→Int×ByteArray→Bool}{l:List (Int×ByteArray)}{k:Nat}{s:Int×ByteArray}(h:l[k]? = some s):z6d p l (k+1)=if p k s=true then z6d p l k++[s.2] else z6d p l k:=by
 rw[z6d,h]
theorem zit(p:Nat→Int×ByteArray→Bool)(l:List (Int×ByteArray)):∀k,(z6d p l k).length≤k
 | 0=>Nat.le_refl _
 | k+1=>by
  have:=zit p l k;unfold z6d;split
  ·split
   ·rw[List.length_append,List.length_singleton];omega
   ·omega
  ·omega
theorem zbm(a b:Int)(l:List (Int×ByteArray)):∀k,k≤l.length→z6d (fun _ s=>decide (a≤s.1)&&decide (s.1≤b)) l k=z6i (l.take k) a b
 | 0,_=>by simp[z6d,z6i]
 | k+1,h=>by
  obtain⟨s,hs⟩:∃s,l[k]? = some s:=⟨_,List.getElem?_eq_getElem (by omega)⟩;rw[zau hs,zbm a b l k (by omega)];unfold z6i;rw[List.take_add_one,hs,Option.toList_some,List.filter_append,List.map_append];cases hc:(decide (a≤s.1)&&decide (s.1≤b)) <;> simp[List.filter_cons,hc]
theorem zcn(a b:Nat)(l:List (Int×ByteArray)):∀k,k≤l.length→z6d (fun i _=>decide (a≤i)&&decide (i < b)) l k=(((l.map (·.2)).take k).take b).drop a
 | 0,_=>by simp[z6d]
 | k+1,h=>by
  obtain⟨s,hs⟩:∃s,l[k]? = some s:=⟨_,List.getElem?_eq_getElem (by omega)⟩;have hs2:(l.map (·.2))[k]? = some s.2:=by rw[List.getElem?_map,hs];rfl
  rw[zau hs,zcn a b l k (by omega)];generalize l.map (·.2)=L at *;have hk:k < L.length:=(List.getElem?_eq_some_iff.1 hs2).1;have hl:(L.take k).length=k:=by rw[List.length_take];omega
  rw[List.take_add_one,hs2,Option.toList_some];by_cases h1:k < b
  ·rw[List.take_of_length_le (l:=L.take k++[s.2]) (by rw[List.length_append,hl,List.length_singleton];omega),List.take_of_length_le (l:=L.take k) (by omega)];by_cases h2:a≤k
   ·rw[if_pos (by simp[h1,h2]),List.drop_append_of_le_length (by omega)]
   ·rw[if_neg (by simp[h2]),List.drop_of_length_le (by omega),List.drop_of_length_le (by rw[List.length_append,hl,List.length_singleton];omega)]
  ·rw[if_neg (by simp[h1]),List.take_append_of_le_length (by omega)]
theorem zsk:∀a b:List UInt8,Lib.compareBytes a b < 0↔a < b
 | [],[]=>by simp[Lib.compareBytes]
 | _ :: _,[]=>by simp[Lib.compareBytes]
 | [],_ :: _=>by simp[Lib.compareBytes]
 | x :: a,y :: b=>by
  have ih:=zsk a b;simp only[Lib.compareBytes,List.cons_lt_cons_iff];by_cases h1:x < y
  ·simp[h1]
  ·by_cases h2:y < x
   ·have h3:x≠y:=fun e=>by subst e;exact h1 h2
    simp[h1,h2,h3]
   ·have h3:x=y:=UInt8.le_antisymm (UInt8.not_lt.1 h2) (UInt8.not_lt.1 h1);subst h3;simp[UInt8.lt_irrefl,ih]
theorem z9y(a b:ByteArray):z4k a b < 0↔a.data.toList < b.data.toList:=zsk _ _
theorem zwb(a b:ByteArray):Op.bytesLess a.toList b.toList=ltS a b:=by
 rw[bytesLess_eq,Lib.toList_data,Lib.toList_data];unfold ltS;exact decide_eq_decide.2 (z9y a b).symm
def unB(l:List UInt8):ByteArray:=⟨l.toArray⟩
theorem zmr(s:ByteArray):unB s.data.toList=s:=rfl
def datas(l:List ByteArray):List (List UInt8):=l.map (·.data.toList)
theorem z1i(l:List ByteArray):(datas l).length=l.length:=by unfold datas;simp
theorem z5l(l:List ByteArray):(datas l).map encStr=z04 l:=by
 unfold datas z04 encStr;rw[List.map_map];rfl
theorem zlb(l:List (List UInt8)):datas (l.map unB)=l:=by
 unfold datas;rw[List.map_map];have:((fun s:ByteArray=>s.data.toList) ∘ unB)=id:=rfl;rw[this,List.map_id]
def z7b(l:List ByteArray):List ByteArray:=((datas l).mergeSort fun x y=>decide (x≤y)).map unB
theorem z3i(l:List ByteArray):(z7b l).length=l.length:=by unfold z7b;simp[z1i]
theorem z61(l:List ByteArray):(z7b l).Perm l:=by
 have h:=((List.mergeSort_perm (datas l) fun x y=>decide (x≤y)).map unB)
 have e:(datas l).map unB=l:=by
  unfold datas;rw[List.map_map];have:(unB ∘ fun s:ByteArray=>s.data.toList)=id:=rfl;rw[this,List.map_id]
 rw[e] at h;exact h
theorem zm5(l:List ByteArray):(z7b l).Pairwise fun a b=>¬z4k b a < 0:=by
 unfold z7b;rw[List.pairwise_map];have:=List.pairwise_mergeSort (le:=fun x y:List UInt8=>decide (x≤y)) (fun a b c h1 h2=>by simpa using List.le_trans (by simpa using h1) (by simpa using h2)) (fun a b=>by simpa using List.le_total a b) (datas l);refine this.imp fun {a b} h=>?_;rw[z9y];have h:a≤b:=by simpa using h
 exact List.not_lt.2 h
def zea(l:List ByteArray):List ByteArray:=(Lib.compact (datas l)).map unB
theorem zls{zs:List (List UInt8)}{x:List UInt8}:x∈Lib.compact zs↔x∈zs:=by
 unfold Lib.compact Lib.compactUpTo;constructor
 ·intro h;obtain⟨i,hi,rfl⟩:=List.mem_map.1 h;have hi':i < zs.length:=List.mem_range.1 (List.mem_filter.1 hi).1;simp[getElem!_pos,hi']
 ·intro h
  have:∀(n i:Nat),i≤n→i < zs.length→zs.toArray[i]! ∈ ((List.range zs.length).filter (Lib.keeps zs.toArray)).map (zs.toArray[·]!):=by
   intro n
   induction n with
   | zero=>
    intro i hi hl;have:i=0:=by omega
    subst this;exact List.mem_map.2 ⟨0,List.mem_filter.2 ⟨List.mem_range.2 hl,by simp[Lib.keeps]⟩,rfl⟩
   | succ n ih=>
    intro i hi hl;by_cases hk:Lib.keeps zs.toArray i=true
    ·exact List.mem_map.2 ⟨i,List.mem_filter.2 ⟨List.mem_range.2 hl,hk⟩,rfl⟩
    ·have hk':¬(i=0∨zs.toArray[i]! ≠ zs.toArray[i - 1]!):=by simpa[Lib.keeps] using hk
     have h0:i≠0:=fun e=>hk' (.inl e);have he:zs.toArray[i]! = zs.toArray[i - 1]! := Classical.byContradiction fun e=>hk' (.inr e);rw[he];exact ih (i - 1) (by omega) (by omega)
  obtain⟨i,hi,rfl⟩:=List.getElem_of_mem h;have:=this i i (Nat.le_refl _) hi;simpa[getElem!_pos,hi] using this
theorem zx5{zs:List (List UInt8)}(h:zs.Pairwise (·≤·)):(Lib.compact zs).Pairwise (· < ·):=by
 unfold Lib.compact Lib.compactUpTo;rw[List.pairwise_map];have hp:((List.range zs.length).filter (Lib.keeps zs.toArray)).Pairwise (· < ·):=List.Pairwise.filter _ (List.pairwise_lt_range);rw[List.pairwise_iff_forall_sublist] at hp ⊢;intro a b hs;have hab:=hp hs
 have hm:∀c∈[a,b],c < zs.length∧Lib.keeps zs.toArray c=true:=fun c hc=>by
  have:=List.mem_filter.1 (hs.subset hc);exact⟨List.mem_range.1 this.1,this.2⟩
 obtain⟨ha,_⟩:=hm a (by simp);obtain⟨hb,hkb⟩:=hm b (by simp);have hkb':b=0∨zs.toArray[b]! ≠ zs.toArray[b - 1]! := by simpa[Lib.keeps] using hkb
 have hne:zs.toArray[b]! ≠ zs.toArray[b - 1]! := by
  rcases hkb' with h0|h0
  ·omega
  ·exact h0
 have e:∀i (hi:i < zs.length),zs.toArray[i]! = zs[i]:=fun i hi=>by simp[getElem!_pos,hi]
 rw[e b hb,e (b - 1) (by omega)] at hne;rw[e a ha,e b hb];have pw:=List.pairwise_iff_getElem.1 h
 have h1:zs[a]≤zs[b - 1]'(by omega):=by
  rcases Nat.lt_or_ge a (b - 1) with hl|hl
  ·exact pw a (b - 1) ha (by omega) hl
  ·have:a=b - 1:=by omega
   subst this;exact List.le_refl _
 have h2:zs[b - 1]'(by omega)≤zs[b]:=pw (b - 1) b (by omega) hb (by omega);have h3:zs[b - 1]'(by omega) < zs[b]:=Classical.byContradiction fun hn=>hne (List.le_antisymm (List.not_lt.1 hn) h2);exact List.lt_of_le_of_lt h1 h3
def z8j(l:List ByteArray):List ByteArray:=zea (z7b l)
theorem z8a{l:List ByteArray}{s:ByteArray}:s∈z8j l↔s∈l:=by
 unfold z8j zea;rw[List.mem_map];constructor
 ·rintro⟨x,hx,rfl⟩;have:=zls.1 hx;unfold datas at this;obtain⟨t,ht,rfl⟩:=List.mem_map.1 this;exact(z61 l).mem_iff.1 ht
 ·intro h;exact⟨s.data.toList,zls.2 (List.mem_map.2 ⟨s,(z61 l).mem_iff.2 h,rfl⟩),rfl⟩
theorem zeq(a b c:ByteArray)(h1:ltS a b=true)(h2:ltS b c=true):ltS a c=true:=
 decide_eq_true (z54 (of_decide_eq_true h1) (of_decide_eq_true h2))
theorem z7w(l:List ByteArray):rises ltS (z8j l)=true:=by
 refine z3q ?_;unfold z8j zea;rw[List.pairwise_map]
 have h:(datas (z7b l)).Pairwise (·≤·):=by
  unfold datas;rw[List.pairwise_map];refine(zm5 l).imp fun {a b} h=>?_;rw[z9y] at h;exact List.not_lt.1 h
 refine(zx5 h).imp fun {a b} h=>decide_eq_true ?_;rw[z9y];exact h
theorem zcl:∀ {a b:List ByteArray},rises ltS a=true→rises ltS b=true→(∀s,s∈a↔s∈b)→a=b:=by
 intro a b ha hb h;have irr:∀s:ByteArray,ltS s s=false:=fun s=>decide_eq_false (by rw[z57];omega)
 have asy:∀s t:ByteArray,ltS s t=true→ltS t s=true→False:=fun s t h1 h2=>by
  have:=zeq s t s h1 h2;rw[irr] at this;cases this
 have pa:=z3b zeq ha;have pb:=z3b zeq hb;clear ha hb
 induction a generalizing b with
 | nil=>
  cases b with
  | nil=>rfl
  | cons y b=>exact absurd ((h y).2 (by simp)) (by simp)
 | cons x a ih=>
  cases b with
  | nil=>exact absurd ((h x).1 (by simp)) (by simp)
  | cons y b=>
   have pa':=List.pairwise_cons.1 pa;have pb':=List.pairwise_cons.1 pb
   have exy:x=y:=by
    rcases List.mem_cons.1 ((h x).1 (by simp)) with e|hx
    ·exact e
    ·rcases List.mem_cons.1 ((h y).2 (by simp)) with e|hy
     ·exact e.symm
     ·exact(asy x y (pa'.1 y hy) (pb'.1 x hx)).elim
   subst exy;congr 1;refine ih (fun s=>?_) pa'.2 pb'.2;constructor
   ·intro hs;rcases List.mem_cons.1 ((h s).1 (List.mem_cons_of_mem _ hs)) with e|h1
    ·subst e;have:=pa'.1 s hs;rw[irr] at this;cases this
    ·exact h1
   ·intro hs;rcases List.mem_cons.1 ((h s).2 (List.mem_cons_of_mem _ hs)) with e|h1
    ·subst e;have:=pb'.1 s hs;rw[irr] at this;cases this
    ·exact h1
theorem zfo{l:List ByteArray}(h:rises ltS l=true):z8j l=l:=zcl (z7w l) h (fun s=>z8a)
theorem za1(l:List ByteArray):(z8j l).length≤l.length:=by
 unfold z8j zea;rw[List.length_map];have h1:=Lib.compact_length_le (datas (z7b l));rw[z1i,z3i] at h1;exact h1
theorem zpn{a l:List ByteArray}(ha:rises ltS a=true)(h:∀s∈a,s∈l):a.length≤l.length:=by
 have e:a=z8j (l.filter fun s=>z6s a s):=zcl ha (z7w _) (fun s=>by
  rw[z8a,List.mem_filter];constructor
  ·intro hs;exact⟨h s hs,z2s.2 hs⟩
  ·intro hs;exact z2s.1 hs.2)
 have h1:=za1 (l.filter fun s=>z6s a s);rw[←e] at h1;exact Nat.le_trans h1 (List.length_filter_le _ _)
theorem zj9{l:List ByteArray}(p:ByteArray→Bool)(h:rises ltS l=true):rises ltS (l.filter p)=true:=
 z3q ((z3b zeq h).filter p)
end Go.Proofs.YtmalkppcahogjaaGreatDoor
namespace Go.Proofs.YtmalkppcahogjaaGreatDoor
open Lib (hid)
open Go.Proofs.Tryz (prog)
open Go.RowKit
def kS(s:ByteArray):Lit:=.string s.data.toList
theorem zpu{a b:ByteArray}(h:kS a=kS b):a=b:=by
 have e:=Lit.string.inj h;rw[←zmr a,←zmr b,e]
theorem zwt(s:ByteArray):WideAt.IsKeyLit (kS s):=by unfold kS WideAt.IsKeyLit;trivial
def nI(n:Nat):DataW Unit:=.lit (.int .i64 n)
def znb(ts:List ByteArray)(s:ByteArray):Nat:=(ts.filter fun t=>decide (t=s)).length
theorem z8r(a b:List ByteArray)(s:ByteArray):znb (a++b) s=znb a s+znb b s:=by unfold znb;simp
theorem zm2(t s:ByteArray):znb [t] s=if t=s then 1 else 0:=by
 unfold znb;by_cases e:t=s <;> simp[e]
theorem zxl(ts:List ByteArray)(s:ByteArray):znb ts s≤ts.length:=List.length_filter_le _ _
theorem zjg(a b:List ByteArray)(s:ByteArray):z6s (a++b) s=(z6s a s||z6s b s):=by
 rw[Bool.eq_iff_iff,Bool.or_eq_true,z2s,z2s,z2s,List.mem_append]
structure Cnt(D:DataW Unit)(ts:List ByteArray):Prop where
 at_:∀s,D.atKey (kS s) (nI 0)=nI (znb ts s)
 has:∀s,Maps.has D (kS s)=z6s ts s
 isMap:Maps.IsMap D
theorem Cnt.start:Cnt (.map []) []:=⟨fun s=>rfl,fun s=>rfl,Maps.isMap_empty⟩
theorem Cnt.put{D:DataW Unit}{ts:List ByteArray}(h:Cnt D ts)(s:ByteArray):Cnt (D.put (kS s) (nI (znb ts s+1))) (ts++[s]):=by
 refine⟨fun t=>?_,fun t=>?_,h.isMap.put _ _⟩
 ·rw[z8r,zm2];by_cases e:s=t
  ·subst e;rw[Maps.atKey_put_same h.isMap (zwt s),if_pos rfl]
  ·rw[Maps.atKey_put_other (fun e'=>e (zpu e').symm),h.at_,if_neg e,Nat.add_zero]
 ·by_cases e:t=s
  ·subst e;rw[Maps.has_put_same h.isMap (zwt t)];exact(z2s.2 (by simp)).symm
  ·rw[Maps.has_put_other (fun e'=>e (zpu e')),h.has,Bool.eq_iff_iff,z2s,z2s];simp[e]
def q0a(l:List Itm)(s:ByteArray):Nat:=(l.filter fun x=>z6s x.list s).length
def zbt(l:List Itm):List ByteArray:=l.flatMap (·.list)
theorem zjw{l:List ByteArray}(h:rises ltS l=true):l.Nodup:=by
 refine(z3b zeq h).imp fun {a b} h=>?_;rintro rfl;have:=of_decide_eq_true h;rw[z57] at this;omega
theorem zd9:∀ {l:List ByteArray},l.Nodup→∀s,znb l s=if z6s l s=true then 1 else 0
 | [],_,s=>rfl
 | t :: l,h,s=>by
  have h':=List.nodup_cons.1 h;have ih:=zd9 h'.2 s;rw[show t :: l=[t]++l from rfl,z8r,zm2,zjg,ih];by_cases e:t=s
  ·subst e;have h1:z6s [t] t=true:=z2s.2 (by simp);have h2:¬z6s l t=true:=fun hm=>h'.1 (z2s.1 hm);simp[h1,h2]
  ·have h1:z6s [t] s=false:=by
    rcases hh:z6s [t] s with _|_
    ·rfl
    ·exact absurd (show s=t by simpa using z2s.1 hh) (fun h=>e h.symm)
   simp[h1,e]
theorem zjp{l:List ByteArray}(h:rises ltS l=true)(s:ByteArray):znb l s=if z6s l s=true then 1 else 0:=zd9 (zjw h) s
theorem zhf:∀ {l:List Itm},(∀x∈l,rises ltS x.list=true)→∀s,znb (zbt l) s=q0a l s
 | [],_,s=>rfl
 | x :: l,h,s=>by
  have ih:=zhf (l:=l) (fun y hy=>h y (by simp[hy])) s;unfold zbt at ih ⊢;unfold q0a at ih ⊢;rw[List.flatMap_cons,z8r,ih,zjp (h x (by simp)),List.filter_cons];split
  ·rw[List.length_cons];omega
  ·omega
def z2k(k:Int):List Itm→Int
 | []=>0
 | x :: l=>if z02 k x≠0 then z02 k x else z2k k l
theorem zbi{k:Int}:∀ {l:List Itm},z2k k l=0→∀x∈l,z02 k x=0
 | [],_,x,hx=>by cases hx
 | y :: l,h,x,hx=>by
  unfold z2k at h;by_cases e:z02 k y=0
  ·rw[if_neg (by simpa using e)] at h;rcases List.mem_cons.1 hx with rfl|hx
   ·exact e
   ·exact zbi h x hx
  ·rw[if_pos e] at h;exact absurd h e
theorem zbo{k:Int}:∀ {l:List Itm} {i:Nat} {x:Itm},(∀y∈l.take i,z02 k y=0)→l[i]? = some x→z02 k x≠0→z2k k l=z02 k x
 | [],i,x,_,h,_=>by simp at h
 | y :: l,0,x,_,h,hx=>by
  simp at h;subst h;unfold z2k;rw[if_pos hx]
 | y :: l,i+1,x,hp,h,hx=>by
  have hy:z02 k y=0:=hp y (by simp);unfold z2k;rw[if_neg (by simpa using hy)];exact zbo (i:=i) (fun z hz=>hp z (by rw[List.take_succ_cons];exact List.mem_cons_of_mem _ hz)) (by simpa using h) hx
theorem za3{k:Int}:∀ {l:List Itm},(∀y∈l,z02 k y=0)→z2k k l=0
 | [],_=>rfl
 | y :: l,h=>by
  unfold z2k;rw[if_neg (by simpa using h y (by simp))];exact za3 fun z hz=>h z (by simp[hz])
def z0v(l:List Itm):Int:=if l.length=0 then 1 else z2k 3 l
def zwn:List Itm→List ByteArray
 | []=>[]
 | x :: _=>x.list
def pick(p:Nat→Bool→Bool)(l:List Itm)(s:ByteArray):Bool:=p (q0a l s) (z6s (zwn l) s)
def z27(p:Nat→Bool→Bool)(l:List Itm):List ByteArray:=if z0v l=0 then z8j ((zbt l).filter (pick p l)) else []
structure Coll(ts:List ByteArray)(p:ByteArray→Bool)(left:Lit→Bool)(d:List ByteArray):Prop where
 nodup:d.Nodup
 mem:∀s,s∈d↔s∈ts∧left (kS s)=false∧p s=true
theorem Coll.start{D:DataW Unit}{ts:List ByteArray}{p:ByteArray→Bool}(h:Cnt D ts):Coll ts p (Maps.has D) []:=
 ⟨List.nodup_nil,fun s=>⟨(fun h=>by cases h),(fun⟨h1,h2,_⟩=>by rw[h.has,z2s.2 h1] at h2;cases h2)⟩⟩
theorem zmc{left:Lit→Bool}{x s:ByteArray}:(left (kS s)&&!(kS s).sameKey (kS x))=false↔left (kS s)=false∨s=x:=by
 by_cases e:s=x
 ·subst e;have:(kS s).sameKey (kS s)=true:=by unfold kS Lit.sameKey;simp
  simp[this]
 ·have:(kS s).sameKey (kS x)=false:=Maps.sameKey_ne (fun h=>e (zpu h));simp[this,e]
theorem Coll.take{ts:List ByteArray}{p:ByteArray→Bool}{left:Lit→Bool}{d:List ByteArray}(h:Coll ts p left d){x:ByteArray}(hx:x∈ts)(hl:left (kS x)=true)(hp:p x=true):Coll ts p (fun z=>left z&&!z.sameKey (kS x)) (d++[x]):=by
 have hn:x∉d:=fun hm=>by have:=((h.mem x).1 hm).2.1;rw[hl] at this;cases this
 refine⟨List.nodup_append.2 ⟨h.nodup,by simp,fun a ha b hb=>?_⟩,fun s=>?_⟩
 ·simp at hb;subst hb;rintro rfl;exact hn ha
 ·show _↔s∈ts∧(left (kS s)&&!(kS s).sameKey (kS x))=false∧_;rw[zmc,List.mem_append,h.mem];constructor
  ·rintro(⟨h1,h2,h3⟩|h1)
   ·exact⟨h1,.inl h2,h3⟩
   ·simp at h1;subst h1;exact⟨hx,.inr rfl,hp⟩
  ·rintro⟨h1,h2|rfl,h3⟩
   ·exact .inl ⟨h1,h2,h3⟩
   ·exact .inr (by simp)
theorem Coll.leave{ts:List ByteArray}{p:ByteArray→Bool}{left:Lit→Bool}{d:List ByteArray}(h:Coll ts p left d){x:ByteArray}(hp:p x=false):Coll ts p (fun z=>left z&&!z.sameKey (kS x)) d:=by
 refine⟨h.nodup,fun s=>?_⟩;show _↔s∈ts∧(left (kS s)&&!(kS s).sameKey (kS x))=false∧_;rw[zmc,h.mem];constructor
 ·rintro⟨h1,h2,h3⟩;exact⟨h1,.inl h2,h3⟩
 ·rintro⟨h1,h2|rfl,h3⟩
  ·exact⟨h1,h2,h3⟩
  ·rw[hp] at h3;cases h3
theorem zcw{d:List ByteArray}(h:d.Nodup):rises ltS (z7b d)=true:=by
 refine z3q ?_;have h2:(z7b d).Nodup:=(z61 d).nodup_iff.2 h;have:=(zm5 d).and h2;refine this.imp fun {a b} ⟨h1,hne⟩=>decide_eq_true ?_;rcases Int.lt_trichotomy (z4k a b) 0 with h3|h3|h3
 ·exact h3
 ·exact absurd (z8q h3) hne
 ·exact absurd (by have:=z63 a b;omega) h1
theorem Coll.done{ts:List ByteArray}{p:ByteArray→Bool}{left:Lit→Bool}{d:List ByteArray}(h:Coll ts p left d)(hl:∀k,left k=false):z7b d=z8j (ts.filter p):=by
 refine zcl (zcw h.nodup) (z7w _) (fun s=>?_);rw[(z61 d).mem_iff,h.mem,z8a,List.mem_filter];exact⟨fun⟨a,_,c⟩=>⟨a,c⟩,fun⟨a,c⟩=>⟨a,hl _,c⟩⟩
theorem Coll.le{ts:List ByteArray}{p:ByteArray→Bool}{left:Lit→Bool}{d:List ByteArray}(h:Coll ts p left d):d.length≤ts.length:=by
 have:=zcw h.nodup;have h2:=zpn this (l:=ts) (fun s hs=>((h.mem s).1 ((z61 d).mem_iff.1 hs)).1);rw[z3i] at h2;exact h2
def zv5(l:List ByteArray)(base:Nat)(v:Value)(w:World)(e:Ending)(w':World):Prop:=e=.returned (.tuple #[])∧w'.ownsRow base 9 1 v l.length (z04 (z7b l))∧w.grownBy w' v.ownBlock
def zvd(l:List ByteArray)(base:Nat)(v:Value)(w:World)(e:Ending)(w':World):Prop:=∃v',e=.returned v'∧w'.ownsRow base 9 1 v' (zea l).length (z04 (zea l))∧w.grownBy w' v.ownBlock∧v'.ownBlock=v.ownBlock
theorem zhh(l:List ByteArray)(base:Nat)(v:Value)(w:World)(hl:l.length≤281474976710656)(h:w.ownsRow base 9 1 v l.length (z04 l)):
  Calls prog 346 #[v] w (zv5 l base v w):=by
 obtain⟨A,c,rfl,hA,hc,hm⟩:=z05 h;rcases Nat.eq_zero_or_pos l.length with h0|h0
 ·have e:l=[]:=List.eq_nil_of_length_eq_zero h0;subst e;refine(Tryz.slices_Sort_string_none A c w).mono ?_;rintro e w' ⟨rfl,rfl⟩;exact⟨rfl,by rw[show z7b []=[] from List.eq_nil_of_length_eq_zero (z3i [])];exact h,z87 _ _⟩
 ·rcases h.2 with⟨_,hn⟩|⟨g,cap,cur,hv,hb,hg,h1,h2,h3,h4⟩
  ·omega
  ·cases hv;have hH:Sort.Holds encStr w g 0 (datas l).toArray:=holds_of_block hg (by rw[z1i,z5l];simpa using h4);have:=Tryz.slices_Sort_string g 0 c (datas l) w hH (Array.getElem?_eq_some_iff.1 hg).1 (by rw[z1i];omega);rw[z1i] at this;refine this.mono ?_;rintro e w' ⟨rfl,n,os,rfl⟩;refine⟨rfl,?_,grownBy_sorted _⟩;have h5:=ownsRow_sorted (base:=base) (n:=n) (os:=os) (ss:=datas l) (ts:=(datas l).mergeSort fun x y=>decide (x≤y)) (by simp) hb hg (by rw[z1i];exact h1) h2 h3;rw[z1i] at h5
   have e:((datas l).mergeSort fun x y=>decide (x≤y)).map encStr=z04 (z7b l):=by
    rw[←z5l];unfold z7b;rw[zlb]
   rw[e] at h5;exact h5
theorem zr5(l:List ByteArray)(base:Nat)(v:Value)(w:World)(hl:l.length≤281474976710656)(h:w.ownsRow base 9 1 v l.length (z04 l)):
  Calls prog 347 #[v] w (zvd l base v w):=by
 obtain⟨A,c,rfl,hA,hc,hm⟩:=z05 h;rcases Nat.eq_zero_or_pos l.length with h0|h0
 ·have e:l=[]:=List.eq_nil_of_length_eq_zero h0;subst e;refine(Tryz.slices_Compact_string_empty A c w).mono ?_;rintro e w' ⟨rfl,rfl⟩;exact⟨_,rfl,by rw[show zea []=[] from rfl];exact h,z87 _ _,rfl⟩
 ·rcases h.2 with⟨_,hn⟩|⟨g,cap,cur,hv,hb,hg,h1,h2,h3,h4⟩
  ·omega
  ·cases hv;have hH:Sort.Holds encStr w g 0 (datas l).toArray:=holds_of_block hg (by rw[z1i,z5l];simpa using h4);have:=Tryz.slices_Compact_string g 0 c (datas l) w hH (by rw[z1i];omega) (by rw[z1i];omega);rw[z1i] at this;refine this.mono ?_;rintro e w' ⟨rfl,q,rfl⟩;have hle:(Lib.compact (datas l)).length≤l.length:=by have:=Lib.compact_length_le (datas l);rw[z1i] at this;exact this
   have hcl:(zea l).length=(Lib.compact (datas l)).length:=by unfold zea;simp
   obtain⟨ts,hts⟩:∃ts,ts=Lib.compact (datas l)++List.replicate (l.length - (Lib.compact (datas l)).length) []:=⟨_,rfl⟩;have htl:ts.length=l.length:=by rw[hts,List.length_append,List.length_replicate];omega
   have hB:=heap_sorted (n:=q) (os:=#[]) ts.toArray hg;have hG:=grownBy_sorted (w:=w) (g:=g) (n:=q) (os:=#[]) ts.toArray;rw[Sort.grow_empty] at hB hG;rw[←hts];refine⟨_,rfl,?_,hG,rfl⟩;rw[hcl];refine⟨by rw[z74,hcl,Nat.mul_one],.inr ⟨g,c,_,rfl,hb,hB,by omega,h2,by simp[Sort.putCells,h3],?_⟩⟩;have hk:=take_putCells cur ts (by omega);rw[Nat.mul_one]
   have e1:∀(L:List Value),L.take (Lib.compact (datas l)).length=(L.take ts.length).take (Lib.compact (datas l)).length:=fun L=>by
    rw[List.take_take,Nat.min_eq_left (by omega)]
   rw[e1,hk,hts,List.map_append,List.take_left' (by simp)];rw[←z5l];unfold zea;rw[zlb]
def zx6(b:Bool)(w:World)(e:Ending)(w':World):Prop:=(∃i:Int,e=.returned (.tuple #[.int .i64 i,.bool b]))∧Fr [] w w'
theorem zxo{l:List ByteArray}{s:ByteArray}(hr:rises ltS l=true):z5y id l s=z6s l s:=by
 rw[Bool.eq_iff_iff,z32,z2s];constructor
 ·rintro⟨q,hq,rfl⟩;exact List.mem_of_getElem? hq
 ·intro h;obtain⟨k,hk⟩:=List.getElem?_of_mem h;have:=zf4 id (show rises (ltK id) l=true from hr) hk;exact⟨s,by rw[show z1x id l s=k from this];exact hk,rfl⟩
theorem zvh(l:List ByteArray)(s:ByteArray)(A:Option Addr)(c B:Nat)(w:World)(hr:rises ltS l=true)(hl:l.length≤281474976710656)(hB:B≤w.heap.size)(h:Sl w B 1 (.slice A l.length c) l.length (z04 l)):
  Calls prog 349 #[.slice A l.length c,.string s] w (zx6 (z6s l s) w):=by
 have HS:=hid h;have hlow:=z5t id l s;have HR:=hid (show rises (ltK id) l=true from hr);have EH:=hid (zxo (s:=s) hr);clear h hr;go_enter Tryz.func349,Tryz.ntmps349;go_wp2;go_loopg [7,8] l.length (fun g s7 s8 wr=>∃(lo hi:Nat),g=hi - lo∧s7=.int .i64 lo∧s8=.int .i64 hi∧lo≤z1x id l s∧z1x id l s≤hi∧hi≤l.length∧Fr [] w wr)
 case atStart=>exact⟨0,l.length,rfl,rfl,rfl,Nat.zero_le _,hlow,Nat.le_refl _,Fr.refl _ _⟩
 case round=>
  obtain⟨lo,hi,rfl,rfl,rfl,h1,h2,h3,hf⟩:=hrel;have HF:=hid hf;clear hf;by_cases hlt:lo < hi
  ·obtain⟨m,hm⟩:∃m,m=(lo+hi) / 2:=⟨_,rfl⟩;have hml:m < l.length:=by omega
   obtain⟨b,off,rfl,hb,hc,hmx,hcell⟩:=HS.out.at_ (by omega);obtain⟨q,hq⟩:∃q,l[m]? = some q:=⟨_,List.getElem?_eq_getElem hml⟩;have c1:=HF.out.cell (show w.cell? ⟨b,off+m,none⟩=some (.string q) from hcell _ _ (z1b l m q hq)) (by simp);have hmi:((lo:Int)+(hi:Int)) / 2=(m:Int):=by omega
   have hM:=hid hm
   have hnew:(ltS q s=true→m < z1x id l s)∧(ltS q s=false→z1x id l s≤m):=⟨fun h=>by
    rcases Nat.lt_or_ge m (z1x id l s) with h'|h'
    ·exact h'
    ·exact absurd (of_decide_eq_true h) (zga id HR.out h' hq),fun h=>by
    rcases Nat.lt_or_ge m (z1x id l s) with h'|h'
    ·exact absurd (z7h id h' hq) (of_decide_eq_false h)
    ·exact h'⟩
   have HN:=hid hnew;clear hcell hq hnew hm;by_cases ho:ltS q s=true
   ·have hn:=HN.out.1 ho;have q1:Op.bytesLess q.toList s.toList=true:=(zwb q s).trans ho;clear ho HN;go_wp2;clear hmi;go_roundg (hi - (m+1))
    case measure=>have:=hM.out;omega
    case rel=>exact⟨m+1,hi,rfl,by go_num,rfl,by omega,h2,h3,HF.out⟩
   ·have ho:ltS q s=false:=by simpa using ho
    have hn:=HN.out.2 ho;have q1:Op.bytesLess q.toList s.toList=false:=(zwb q s).trans ho;clear ho HN;go_wp2;clear hmi;go_roundg (m - lo)
    case measure=>have:=hM.out;omega
    case rel=>exact⟨lo,m,rfl,rfl,rfl,h1,hn,by omega,HF.out⟩
  ·obtain rfl:hi=lo:=by omega
   obtain⟨lw,hlw⟩:∃lw,lw=z1x id l s:=⟨_,rfl⟩;obtain rfl:hi=lw:=by omega
   have HL:=hid hlw;by_cases hn:hi < l.length
   ·obtain⟨b,off,rfl,hb,hc,hmx,hcell⟩:=HS.out.at_ (by omega);obtain⟨q,hq⟩:∃q,l[hi]? = some q:=⟨_,List.getElem?_eq_getElem hn⟩;have c1:=HF.out.cell (show w.cell? ⟨b,off+hi,none⟩=some (.string q) from hcell _ _ (z1b l hi q hq)) (by simp)
    have HH:=hid (show z6s l s=decide (q=s) from by
     rw[←EH.out];unfold z5y;rw[←hlw,hq];refine decide_eq_decide.2 ⟨fun h=>z8q h,fun h=>?_⟩;rw[h];exact z57 _)
    clear hcell hq hlw h1 h2 EH;by_cases ho:q=s
    ·have q1:(q.toList==s.toList)=true:=by have:=eqB q s;rw[decide_eq_true ho] at this;exact this
     have HH2:=hid (HH.out.trans (decide_eq_true ho));clear HH ho;go_wp2;go_ret2;rw[HH2.out];exact⟨⟨_,rfl⟩,HF.out⟩
    ·have q1:(q.toList==s.toList)=false:=neqB' ho;have HH2:=hid (HH.out.trans (decide_eq_false ho));clear HH ho;go_wp2;go_ret2;rw[HH2.out];exact⟨⟨_,rfl⟩,HF.out⟩
   ·have HH2:=hid (show z6s l s=false from by
     rw[←EH.out];unfold z5y;rw[←hlw,List.getElem?_eq_none (by omega)])
    clear EH hlw h1 h2;go_wp2;go_ret2;rw[HH2.out];exact⟨⟨_,rfl⟩,HF.out⟩
theorem zey(l:List ByteArray)(s:ByteArray)(A:Option Addr)(c B:Nat)(w:World)(hr:rises ltS l=true)(hl:l.length≤281474976710656)(hB:B≤w.heap.size)(h:Sl w B 1 (.slice A l.length c) l.length (z04 l)):
  Calls prog 308 #[.slice A l.length c,.string s] w fun e w'=>e=.returned (.bool (z6s l s))∧Fr [] w w':=by
 have I:=hid (zvh l s A c B w hr hl hB h);clear h;go_enter Tryz.func308,Tryz.ntmps308;go_wp2_with fail;refine I.out.mono ?_;rintro e w1 ⟨⟨i,rfl⟩,h1⟩;go_wp2;go_ret;exact⟨rfl,h1⟩
theorem zmd(l:List ByteArray)(A:Option Addr)(c:Nat)(w:World)(B:Nat)(hl:l.length≤281474976710656)(hB:B≤w.heap.size)(h:Sl w B 1 (.slice A l.length c) l.length (z04 l)):
  Calls prog 299 #[.slice A l.length c] w fun e w'=>e=.returned (.int .i64 (z13 l))∧Fr [] w w':=by
 have C:=hid (zmb l A c B w hl hB h);unfold z13;generalize l.any z4h=b at *;clear h;by_cases hm:l.length=0
 ·rw[if_pos hm];have q:((l.length:Int)==0)=true:=by simp[hm]
  go_enter Tryz.func299,Tryz.ntmps299;go_wp2;go_ret;exact⟨rfl,Fr.refl [] w⟩
 ·rw[if_neg hm];have q:((l.length:Int)==0)=false:=beq_eq_false_iff_ne.2 (by omega);clear hm;cases b
  ·go_enter Tryz.func299,Tryz.ntmps299;go_wp2_with fail;refine C.out.mono ?_;rintro e w1 ⟨rfl,f1⟩;go_wp2;go_ret;exact⟨rfl,f1⟩
  ·go_enter Tryz.func299,Tryz.ntmps299;go_wp2_with fail;refine C.out.mono ?_;rintro e w1 ⟨rfl,f1⟩;go_wp2;go_ret;exact⟨rfl,f1⟩
theorem zr2(n:Nat)(w:World)(hn:n * 16≤140737488355328):
  Calls prog 206 #[.slice none 0 0,.int .i64 n] w (z7p 9 1 0 [] w):=by
 obtain⟨i0,hi,hz0,hz1,hz2⟩:=info_parts z3h;by_cases h0:n=0
 ·subst h0;go_enter Tryz.func206,Tryz.ntmps206;go_wp2;go_ret;exact⟨_,rfl,World.ownsRow_nil _ _ _ _,Fr.refl [] w⟩
 ·have h4:(n:Int) > 0:=by omega
  have hold:(Builtin.firstCells i0.size 0 (.slice none 0 0)).run prog w.drew=.ok ([]:List Value).toArray w.drew:=run_firstCells_none w.drew i0.size 0 0 0
  have hrz:∀ty,(Builtin.append_ #[24,3] ty #[.slice none 0 0,.int .i64 (n:Int)]).run prog w=.ok (.slice (some ⟨w.heap.size,0,none⟩) (0+n) (grownCap w (0+n) 0 9)) (w.drew.alloc (.cells (([]:List Value).toArray++Builtin.zeroCells (Value.string ⟨#[]⟩).cells n++Builtin.zeroCells (Value.string ⟨#[]⟩).cells (grownCap w (0+n) 0 9 - (0+n))) 9)):=fun ty=>
   Lib.run_append_grow_zeros w 24 3 ty 9 i0 _ .i64 .i64 Tryz.underlying24 Tryz.underlying3 hi hz0 none 0 0 [] hold n (by omega) (by omega) (by omega) (by omega) (by rw[hz2];omega) (by have:=growslice_fits (need:=0+n) (old:=0) (bytes:=i0.bytes) (by omega) (by rw[hz2];omega);exact this)
  have hG:grownCap w (0+n) 0 9≤maxLen:=grownCap_le_maxLen w _ _ _ (by unfold maxLen;omega);have hGe:0+n≤grownCap w (0+n) 0 9:=grownCap_ge w _ _ _;generalize grownCap w (0+n) 0 9=G at *
  have hO:(w.alloc (.cells (Builtin.zeroCells #[Value.string ⟨#[]⟩] n++Builtin.zeroCells #[Value.string ⟨#[]⟩] (G - n)) 9)).drew.ownsRow w.heap.size 9 1 (.slice (some ⟨w.heap.size,0,none⟩) 0 G) 0 []:=
   World.ownsRow_made (base:=w.heap.size) (e:=9) (size:=1) w (Builtin.zeroCells #[Value.string ⟨#[]⟩] n++Builtin.zeroCells #[Value.string ⟨#[]⟩] (G - n)) G (Nat.le_refl _) hG (by simp[Builtin.zeroCells];omega)
  have HO:=hid hO;have hG2:G≤9223372036854775807:=by unfold maxLen at hG;omega
  clear hO hG h0 hold;go_enter Tryz.func206,Tryz.ntmps206;go_wp2_with (at_builtin;refine Lib.wpList_append_run _ rfl _ _ _ _ rfl _ _ rfl rfl _ _ (hrz _) ?_);go_ret;exact⟨_,rfl,HO.out,((Fr.refl [] w).drew).alloc _⟩
def z5e(a b:List ByteArray)(k:Nat):List ByteArray:=if k=0 then [] else if k=1 then a else a++b
theorem z6c(a b:List ByteArray)(v1 v2:Value)(g c:Nat)(w:World)(B:Nat)(ha:a.length≤256)(hb:b.length≤8796093021952)(hc:2≤c)(hc2:c≤1000)(hB:B≤w.heap.size)(h1:Sl w B 1 v1 a.length (z04 a))(h2:Sl w B 1 v2 b.length (z04 b))
  (g0:w.cell? ⟨g,0,none⟩=some v1) (g1:w.cell? ⟨g,1,none⟩=some v2):
  Calls prog 156 #[.slice (some ⟨g,0,none⟩) 2 c] w (z7p 9 1 (a++b).length (z04 (a++b)) w):=by
 obtain⟨i0,hi,hz0,hz1,hz2⟩:=info_parts z3h;obtain⟨A1,c1,rfl,_⟩:=id h1;obtain⟨A2,c2,rfl,_⟩:=id h2;have H1:=hid h1;have H2:=hid h2;have G0:=hid g0;have G1:=hid g1;have hgl:g < w.heap.size:=World.block_lt_of_cell? w _ g0;clear h1 h2;go_enter Tryz.func156,Tryz.ntmps156;go_wp2;go_loopg [3,11] 2 (fun k s i wr=>∃(m:Nat),k=2 - m∧m≤2∧i=.int .i64 m∧s=.int .i64 ((z5e a b m).length:Nat)∧w=wr)
 case atStart=>exact⟨0,rfl,by omega,rfl,rfl,rfl⟩
 case round=>
  obtain⟨m,rfl,hm,rfl,rfl,rfl⟩:=hrel;rcases(show m=0∨m=1∨m=2 by omega) with rfl|rfl|rfl
  ·rw[show(z5e a b 0).length=0 from rfl];go_wp2;go_roundg (2 - (0+1))
   case measure=>omega
   case rel=>exact⟨1,rfl,by omega,by simp,by simp[z5e],rfl⟩
  ·rw[show(z5e a b 1).length=a.length from rfl];go_wp2;go_roundg (2 - (1+1))
   case measure=>omega
   case rel=>exact⟨2,rfl,by omega,by simp,by simp[z5e],rfl⟩
  obtain⟨N,hN⟩:∃N,N=(z5e a b 2).length:=⟨_,rfl⟩;rw[←hN];have hab:N≤8796093022208:=by rw[hN];simp[z5e];omega
  clear g0 g1 hN;go_wp2_with fail;refine(zr2 N _ (by omega)).mono ?_;rintro e w1 ⟨v,rfl,ho,hf⟩;have HO:=hid ho;have HF:=hid hf;have hz:=hf.size;obtain⟨Av,cv,rfl,-⟩:=z05 ho;clear ho hf;go_wp2;go_loopg [6,27] 2 (fun k v i wr=>∃(m:Nat),k=2 - m∧m≤2∧i=.int .i64 m∧wr.ownsRow w.heap.size 9 1 v (z5e a b m).length (z04 (z5e a b m))∧Fr [] w wr)
  case atStart=>exact⟨0,rfl,by omega,rfl,HO.out,HF.out⟩
  case round=>
  obtain⟨m,rfl,hm,rfl,ho,hf⟩:=hrel;have hzr:=hf.size;have HF1:=hid hf;have HO1:=hid ho;obtain⟨Am,cm,rfl,-⟩:=z05 ho;clear ho hf;rcases(show m=0∨m=1∨m=2 by omega) with rfl|rfl|rfl
  ·have x1:wr.cell? ⟨g,0,none⟩=some (.slice A1 a.length c1):=HF1.out.cell G0.out (by simp);go_wp2_with (at_builtin;refine z0j _ rfl _ _ 24 rfl w.heap.size 9 i0 _ 1 16 Tryz.underlying24 hi hz0 hz1 hz2 rfl (by decide) _ _ _ rfl HO1.out B _ a.length (z04 a) rfl (H1.out.fr HF1.out hB (by simp)) (z38 a) ?c1 ?c2 ?c3 ?_)
   case c1=>show 0+a.length≤_;unfold maxLen;omega
   case c2=>show(0+a.length) * 16≤_;omega
   case c3=>omega
   intro v' w2 hown' hgrow hat;have HO2:=hid hown';have HF2:=hid (HF1.out.grown hgrow (fun k hk=>.inr (HO1.out.lt k hk).1));clear hown' hgrow hat x1;go_wp2;go_roundg (2 - (0+1))
   case measure=>omega
   case rel=>exact⟨1,rfl,by omega,by simp,by have:=HO2.out;simpa[z5e,z04] using this,HF2.out⟩
  ·have x1:wr.cell? ⟨g,1,none⟩=some (.slice A2 b.length c2):=HF1.out.cell G1.out (by simp);go_wp2_with (at_builtin;refine z0j _ rfl _ _ 24 rfl w.heap.size 9 i0 _ 1 16 Tryz.underlying24 hi hz0 hz1 hz2 rfl (by decide) _ _ _ rfl HO1.out B _ b.length (z04 b) rfl (H2.out.fr HF1.out hB (by simp)) (z38 b) ?d1 ?d2 ?d3 ?_)
   case d1=>show a.length+b.length≤_;unfold maxLen;omega
   case d2=>show(a.length+b.length) * 16≤_;omega
   case d3=>omega
   intro v' w2 hown' hgrow hat;have HO2:=hid hown';have HF2:=hid (HF1.out.grown hgrow (fun k hk=>.inr (HO1.out.lt k hk).1));clear hown' hgrow hat x1;go_wp2;go_roundg (2 - (1+1))
   case measure=>omega
   case rel=>exact⟨2,rfl,by omega,by simp,by have:=HO2.out;simpa[z5e,z04] using this,HF2.out⟩
  go_wp2;go_ret;exact⟨_,rfl,HO1.out,HF1.out⟩
end Go.Proofs.YtmalkppcahogjaaGreatDoor
