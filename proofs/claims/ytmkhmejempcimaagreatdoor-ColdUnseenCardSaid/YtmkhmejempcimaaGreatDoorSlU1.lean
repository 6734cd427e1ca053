/- Contracts; no condition but each theorem's own. -/
import Derived.Test.YtmkhmejempcimaaGreatDoorSlU0
import Derived.Deep.DeepCutAuto
import Derived.Deep.LoopGhost
import Derived.IntWalk
import Derived.Laws.AppendOwn
set_option linter.unusedVariables false
set_option linter.unusedSimpArgs false
set_option maxHeartbeats 8000000
set_option maxRecDepth 100000
namespace Go.Proofs.YtmkhmejempcimaaGreatDoor
open Lib (hid)
open Go.Proofs.Tryz (prog)
open Go.RowKit
attribute [local go_sem] z0p
theorem z6y(n a b:Int)(w:World):Calls prog 84 #[.int .i64 n,.int .i64 a,.int .i64 b] w fun e w'=>e=.returned (.bool (decide (a≤n)&&decide (n≤b)))∧w'=w:=by
 by_cases h:a≤n
 ·go_enter Tryz.func84,Tryz.ntmps84;go_wp2;go_ret;simp[h]
 ·go_enter Tryz.func84,Tryz.ntmps84;go_wp2;go_ret;simp[h]
  try omega
theorem z89(n:Int)(w:World):Calls prog 97 #[.int .i64 n] w fun e w'=>e=.returned (.bool (z17 n))∧w'=w:=by
 go_enter Tryz.func97,Tryz.ntmps97;go_wp2_with fail;refine(z6y _ _ _ _).mono ?_;rintro e w1 ⟨rfl,rfl⟩;go_wp2;go_ret;exact⟨rfl,rfl⟩
theorem z5b(s:ByteArray)(w:World):Calls prog 55 #[.string s] w fun e w'=>e=.returned (.bool (decide (60 < s.size)))∧w'=w:=by
 have hi:(60 < (s.size:Int))↔60 < s.size:=by omega
 go_enter Tryz.func55,Tryz.ntmps55;go_wp2;go_ret;simp[hi]
theorem zam(a b:ByteArray)(w:World):Calls prog 116 #[.string a,.string b] w fun e w'=>e=.returned (.int .i64 (z36 a b))∧w'=w:=by
 go_enter Tryz.func116,Tryz.ntmps116;go_wp2;rw[run_callFunc_extern Tryz.func172 (by kernel_rfl) (by kernel_rfl) (by kernel_rfl) (e:=Extern.BytealgCompare.compare) (by kernel_rfl),Lib.run_compareString];simp only[Result.andThen];rw[Oper.upon_value];go_wp2;go_ret;exact⟨rfl,rfl⟩
theorem z3e(a b:ByteArray)(w:World):Calls prog 89 #[.string a,.string b] w fun e w'=>e=.returned (.int .i64 (z36 a b))∧w'=w:=by
 go_enter Tryz.func89,Tryz.ntmps89;go_wp2_with fail;refine(zam _ _ _).mono ?_;rintro e w1 ⟨rfl,rfl⟩;go_wp2;go_ret;exact⟨rfl,rfl⟩
theorem zab(x:Itm)(v:Value)(w:World)(B:Nat)(hs:x.Small)(h:z1m w B v x):
  Calls prog 75 #[v] w fun e w'=>e=.returned (.int .i64 (many x))∧Fr [] w w':=by
 obtain⟨A1,c1,A2,c2,A3,c3,rfl,h1,h2,h3⟩:=h;have s1:=hs.list;have s2:=hs.pairs;have s3:=hs.scores;have hE:((many x:Nat):Int)=(x.list.length:Int)+x.pairs.length+x.scores.length:=by unfold many;omega
 clear h1 h2 h3;generalize x.list.length=n1 at *;generalize x.pairs.length=n2 at *;generalize x.scores.length=n3 at *;generalize many x=m at *;generalize x.kind=k at *;generalize x.text=t at *;go_enter Tryz.func75,Tryz.ntmps75;go_wp2;go_ret;rw[hE];refine⟨rfl,?_⟩;exact(Fr.refl [] w).alloc _
theorem zp5(t:ByteArray):(t.toList==ByteArray.toList ⟨#[]⟩)=decide (t.size=0):=by
 rw[eqB];by_cases h:t.size=0
 ·have:t=⟨#[]⟩:=by
   cases t with
   | mk d=>
    congr 1;exact Array.eq_empty_of_size_eq_zero h
  subst this;exact(decide_eq_true rfl).trans (decide_eq_true rfl).symm
 ·have:t≠⟨#[]⟩:=fun e=>h (by rw[e];rfl);simp[h,this]
theorem zff(x:Itm)(v:Value)(w:World)(B:Nat)(hs:x.Small)(h:z1m w B v x):
  Calls prog 86 #[v] w fun e w'=>e=.returned (.bool (z4o x))∧Fr [] w w':=by
 obtain⟨A1,c1,A2,c2,A3,c3,rfl,h1,h2,h3⟩:=h;have s1:=hs.list;have s2:=hs.pairs;have s3:=hs.scores;have hT:=zp5 x.text;rw[show ByteArray.toList ⟨#[]⟩=[] from by decide +kernel] at hT;have hL:((x.list.length:Int)==0)=(x.list.length==0):=by rw[Bool.eq_iff_iff];simp
 have hP:((x.pairs.length:Int)==0)=(x.pairs.length==0):=by rw[Bool.eq_iff_iff];simp
 have hS:((x.scores.length:Int)==0)=(x.scores.length==0):=by rw[Bool.eq_iff_iff];simp
 have hE:z4o x=((x.kind==1||x.text.size==0)&&(x.kind==2||x.kind==3||x.list.length==0)&&(x.kind==4||x.pairs.length==0)&&(x.kind==5||x.scores.length==0)):=rfl
 clear h1 h2 h3 hs;generalize (x.list.length==0)=bL at *;generalize (x.pairs.length==0)=bP at *;generalize (x.scores.length==0)=bS at *;rw[show(x.text.size==0)=decide (x.text.size=0) from rfl] at hE;generalize decide (x.text.size=0)=bT at *;generalize x.list.length=n1 at *;generalize x.pairs.length=n2 at *;generalize x.scores.length=n3 at *;generalize z4o x=r at *;generalize x.kind=k at *;generalize x.text=t at *;by_cases k1:k=1
 ·subst k1;cases bL
  ·have HE:=hid hE;clear hE;go_enter Tryz.func86,Tryz.ntmps86;go_wp2;go_ret;rw[HE.out];exact⟨by simp[hT],(Fr.refl [] w).alloc _⟩
  ·cases bP
   ·have HE:=hid hE;clear hE;go_enter Tryz.func86,Tryz.ntmps86;go_wp2;go_ret;rw[HE.out];exact⟨by simp[hT],(Fr.refl [] w).alloc _⟩
   ·cases bS
    ·have HE:=hid hE;clear hE;go_enter Tryz.func86,Tryz.ntmps86;go_wp2;go_ret;rw[HE.out];exact⟨by simp[hT],(Fr.refl [] w).alloc _⟩
    ·have HE:=hid hE;clear hE;go_enter Tryz.func86,Tryz.ntmps86;go_wp2;go_ret;rw[HE.out];exact⟨by simp[hT],(Fr.refl [] w).alloc _⟩
 by_cases k2:k=2
 ·subst k2;cases bT
  ·have HE:=hid hE;clear hE;go_enter Tryz.func86,Tryz.ntmps86;go_wp2;go_ret;rw[HE.out];exact⟨by simp[hT],(Fr.refl [] w).alloc _⟩
  ·cases bP
   ·have HE:=hid hE;clear hE;go_enter Tryz.func86,Tryz.ntmps86;go_wp2;go_ret;rw[HE.out];exact⟨by simp[hT],(Fr.refl [] w).alloc _⟩
   ·cases bS
    ·have HE:=hid hE;clear hE;go_enter Tryz.func86,Tryz.ntmps86;go_wp2;go_ret;rw[HE.out];exact⟨by simp[hT],(Fr.refl [] w).alloc _⟩
    ·have HE:=hid hE;clear hE;go_enter Tryz.func86,Tryz.ntmps86;go_wp2;go_ret;rw[HE.out];exact⟨by simp[hT],(Fr.refl [] w).alloc _⟩
 by_cases k3:k=3
 ·subst k3;cases bT
  ·have HE:=hid hE;clear hE;go_enter Tryz.func86,Tryz.ntmps86;go_wp2;go_ret;rw[HE.out];exact⟨by simp[hT],(Fr.refl [] w).alloc _⟩
  ·cases bP
   ·have HE:=hid hE;clear hE;go_enter Tryz.func86,Tryz.ntmps86;go_wp2;go_ret;rw[HE.out];exact⟨by simp[hT],(Fr.refl [] w).alloc _⟩
   ·cases bS
    ·have HE:=hid hE;clear hE;go_enter Tryz.func86,Tryz.ntmps86;go_wp2;go_ret;rw[HE.out];exact⟨by simp[hT],(Fr.refl [] w).alloc _⟩
    ·have HE:=hid hE;clear hE;go_enter Tryz.func86,Tryz.ntmps86;go_wp2;go_ret;rw[HE.out];exact⟨by simp[hT],(Fr.refl [] w).alloc _⟩
 by_cases k4:k=4
 ·subst k4;cases bT
  ·have HE:=hid hE;clear hE;go_enter Tryz.func86,Tryz.ntmps86;go_wp2;go_ret;rw[HE.out];exact⟨by simp[hT],(Fr.refl [] w).alloc _⟩
  ·cases bL
   ·have HE:=hid hE;clear hE;go_enter Tryz.func86,Tryz.ntmps86;go_wp2;go_ret;rw[HE.out];exact⟨by simp[hT],(Fr.refl [] w).alloc _⟩
   ·cases bS
    ·have HE:=hid hE;clear hE;go_enter Tryz.func86,Tryz.ntmps86;go_wp2;go_ret;rw[HE.out];exact⟨by simp[hT],(Fr.refl [] w).alloc _⟩
    ·have HE:=hid hE;clear hE;go_enter Tryz.func86,Tryz.ntmps86;go_wp2;go_ret;rw[HE.out];exact⟨by simp[hT],(Fr.refl [] w).alloc _⟩
 by_cases k5:k=5
 ·subst k5;cases bT
  ·have HE:=hid hE;clear hE;go_enter Tryz.func86,Tryz.ntmps86;go_wp2;go_ret;rw[HE.out];exact⟨by simp[hT],(Fr.refl [] w).alloc _⟩
  ·cases bL
   ·have HE:=hid hE;clear hE;go_enter Tryz.func86,Tryz.ntmps86;go_wp2;go_ret;rw[HE.out];exact⟨by simp[hT],(Fr.refl [] w).alloc _⟩
   ·cases bP
    ·have HE:=hid hE;clear hE;go_enter Tryz.func86,Tryz.ntmps86;go_wp2;go_ret;rw[HE.out];exact⟨by simp[hT],(Fr.refl [] w).alloc _⟩
    ·have HE:=hid hE;clear hE;go_enter Tryz.func86,Tryz.ntmps86;go_wp2;go_ret;rw[HE.out];exact⟨by simp[hT],(Fr.refl [] w).alloc _⟩
 have q1:(k==1)=false:=by simpa using k1
 have q2:(k==2)=false:=by simpa using k2
 have q3:(k==3)=false:=by simpa using k3
 have q4:(k==4)=false:=by simpa using k4
 have q5:(k==5)=false:=by simpa using k5
 cases bT
 ·have HE:=hid hE;clear hE;go_enter Tryz.func86,Tryz.ntmps86;go_wp2;go_ret;rw[HE.out];exact⟨by simp[hT,q1,q2,q3,q4,q5],(Fr.refl [] w).alloc _⟩
 ·cases bL
  ·have HE:=hid hE;clear hE;go_enter Tryz.func86,Tryz.ntmps86;go_wp2;go_ret;rw[HE.out];exact⟨by simp[hT,q1,q2,q3,q4,q5],(Fr.refl [] w).alloc _⟩
  ·cases bP
   ·have HE:=hid hE;clear hE;go_enter Tryz.func86,Tryz.ntmps86;go_wp2;go_ret;rw[HE.out];exact⟨by simp[hT,q1,q2,q3,q4,q5],(Fr.refl [] w).alloc _⟩
   ·cases bS
    ·have HE:=hid hE;clear hE;go_enter Tryz.func86,Tryz.ntmps86;go_wp2;go_ret;rw[HE.out];exact⟨by simp[hT,q1,q2,q3,q4,q5],(Fr.refl [] w).alloc _⟩
    ·have HE:=hid hE;clear hE;go_enter Tryz.func86,Tryz.ntmps86;go_wp2;go_ret;rw[HE.out];exact⟨by simp[hT,q1,q2,q3,q4,q5],(Fr.refl [] w).alloc _⟩
theorem zjm(a b:ByteArray)(w:World):Calls prog 113 #[.agg #[.string a,.string b]] w fun e w'=>e=.returned (.bool (decide (60 < a.size)||decide (60 < b.size)))∧Fr [] w w':=by
 have L1:=hid (fun W=>z5b a W);have L2:=hid (fun W=>z5b b W);by_cases h:60 < a.size
 ·rw[decide_eq_true h] at L1 ⊢;go_enter Tryz.func113,Tryz.ntmps113;go_wp2_with fail;refine(L1.out _).mono ?_;rintro e w1 ⟨rfl,rfl⟩;go_wp2;go_ret;exact⟨rfl,(Fr.refl [] w).alloc _⟩
 ·rw[decide_eq_false h] at L1 ⊢;go_enter Tryz.func113,Tryz.ntmps113;go_wp2_with fail;refine(L1.out _).mono ?_;rintro e w1 ⟨rfl,rfl⟩;go_wp2_with fail;refine(L2.out _).mono ?_;rintro e w1 ⟨rfl,rfl⟩;go_wp2;go_ret;exact⟨rfl,(Fr.refl [] w).alloc _⟩
theorem zhn(a:Int)(b:ByteArray)(w:World):Calls prog 115 #[.agg #[.int .i64 a,.string b]] w fun e w'=>e=.returned (.bool (decide (60 < b.size)))∧Fr [] w w':=by
 go_enter Tryz.func115,Tryz.ntmps115;go_wp2_with fail;refine(z5b _ _).mono ?_;rintro e w1 ⟨rfl,rfl⟩;go_wp2;go_ret;exact⟨rfl,(Fr.refl [] w).alloc _⟩
def z2w{α:Type}(q:α→Bool)(l:List α):Int:=match l.findIdx? q with|some i=>i|none=>-1
theorem z1l{α:Type}{q:α→Bool}{l:List α}{k:Nat}{s:α}(h:∀(j:Nat) t,j < k→l[j]? = some t→q t=false)(hk:l[k]? = some s)(hq:q s=true):z2w q l=k:=by
 have:l.findIdx? q=some k:=by
  rw[List.findIdx?_eq_some_iff_getElem];obtain⟨hlt,he⟩:=List.getElem?_eq_some_iff.1 hk;exact⟨hlt,by rw[he];exact hq,fun j hj=>by rw[h j _ hj (List.getElem?_eq_getElem (by omega))];decide⟩
 unfold z2w;rw[this]
theorem z1z{α:Type}{q:α→Bool}{l:List α}(h:∀(j:Nat) t,l[j]? = some t→q t=false):z2w q l=-1:=by
 have:l.findIdx? q=none:=by
  rw[List.findIdx?_eq_none_iff];intro t ht;obtain⟨j,hj⟩:=List.getElem?_of_mem ht;exact h j t hj
 unfold z2w;rw[this]
def z2r(s:ByteArray):Bool:=decide (60 < s.size)
theorem zcx(l:List ByteArray)(A:Option Addr)(c B:Nat)(w:World)(hl:l.length≤281474976710656)(hB:B≤w.heap.size)(hsl:Sl w B 1 (.slice A l.length c) l.length (z04 l)):
  Calls prog 119 #[.slice A l.length c,.func (Fn.func 55) #[] #[]] w fun e w'=>e=.returned (.int .i64 (z2w z2r l))∧Fr [] w w':=by
 have HS:=hid hsl;clear hsl;go_enter Tryz.func119,Tryz.ntmps119;go_wp2;go_loopg [5,8] l.length (fun g u i wr=>∃(k:Nat),g=l.length - k∧k≤l.length∧i=.int .i64 k∧(∀j t,j < k→l[j]? = some t→z2r t=false)∧Fr [] w wr)
 case atStart=>exact⟨0,rfl,Nat.zero_le _,rfl,fun j t hj=>absurd hj (Nat.not_lt_zero _),Fr.refl _ _⟩
 case round=>
  obtain⟨k,rfl,hk,rfl,hno,hf⟩:=hrel;by_cases hlt:k < l.length
  ·obtain⟨b,off,rfl,hb,hc,hm,hcell⟩:=HS.out.at_ (by omega);obtain⟨s,hs⟩:∃s,l[k]? = some s:=⟨_,List.getElem?_eq_getElem hlt⟩;have hc1:wr.cell? ⟨b,off+k,none⟩=some (.string s):=hf.cell (hcell k _ (z0x l k s hs)) (by simp);have L:=hid (fun W=>z5b s W);by_cases hq:z2r s=true
   ·have E:=hid (z1l hno hs hq);rw[show decide (60 < s.size)=true from hq] at L;clear hno hcell hs hq;go_wp2_with fail;refine(L.out _).mono ?_;rintro e w1 ⟨rfl,rfl⟩;go_wp2;go_ret;rw[E.out];exact⟨rfl,hf⟩
   ·have hq':z2r s=false:=by simpa using hq
    rw[show decide (60 < s.size)=false from hq'] at L
    have N:=hid (fun j t (hj:j < k+1) (ht:l[j]? = some t)=>(show z2r t=false by
     rcases Nat.lt_or_ge j k with h|h
     ·exact hno j t h ht
     ·have e:j=k:=by omega
      subst e;rw[hs] at ht;cases ht;exact hq'))
    clear hno hcell hs hq hq';go_wp2_with fail;refine(L.out _).mono ?_;rintro e w1 ⟨rfl,rfl⟩;go_wp2;go_roundg (l.length - (k+1))
    case measure=>omega
    case rel=>exact⟨k+1,rfl,by omega,rfl,N.out,hf⟩
  ·have E:=hid (z1z (q:=z2r) (l:=l) (fun j t ht=>hno j t (by have:=(List.getElem?_eq_some_iff.1 ht).1;omega) ht));clear hno;go_wp2;go_ret;rw[E.out];exact⟨rfl,hf⟩
def z5p(s:ByteArray×ByteArray):Bool:=decide (60 < s.1.size)||decide (60 < s.2.size)
theorem zbo(l:List (ByteArray×ByteArray))(A:Option Addr)(c B:Nat)(w:World)(hl:l.length≤281474976710656)(hB:B≤w.heap.size)(hsl:Sl w B 2 (.slice A l.length c) l.length (z0t l)):
  Calls prog 170 #[.slice A l.length c,.func (Fn.func 113) #[] #[]] w fun e w'=>e=.returned (.int .i64 (z2w z5p l))∧Fr [] w w':=by
 have HS:=hid hsl;clear hsl;go_enter Tryz.func170,Tryz.ntmps170;go_wp2;go_loopg [5,8] l.length (fun g u i wr=>∃(k:Nat),g=l.length - k∧k≤l.length∧i=.int .i64 k∧(∀j t,j < k→l[j]? = some t→z5p t=false)∧Fr [] w wr)
 case atStart=>exact⟨0,rfl,Nat.zero_le _,rfl,fun j t hj=>absurd hj (Nat.not_lt_zero _),Fr.refl _ _⟩
 case round=>
  obtain⟨k,rfl,hk,rfl,hno,hf⟩:=hrel;by_cases hlt:k < l.length
  ·obtain⟨b,off,rfl,hb,hc,hm,hcell⟩:=HS.out.at_ (by omega);obtain⟨s,hs⟩:∃s,l[k]? = some s:=⟨_,List.getElem?_eq_getElem hlt⟩;have hc1:wr.cell? ⟨b,off+2 * k,none⟩=some (.string s.1):=hf.cell (hcell _ _ (z0j l k s hs).1) (by simp);have hc2:wr.cell? ⟨b,off+2 * k+1,none⟩=some (.string s.2):=hf.cell (hcell _ _ (z0j l k s hs).2) (by simp);rw[Nat.mul_comm 2 k] at hc1 hc2;have L:=hid (fun W=>zjm s.1 s.2 W);by_cases hq:z5p s=true
   ·have E:=hid (z1l hno hs hq);rw[show(decide (60 < s.1.size)||decide (60 < s.2.size))=true from hq] at L
    clear hno hcell hs hq;go_wp2_with fail;refine(L.out _).mono ?_;rintro e w1 ⟨rfl,h1⟩;go_wp2;go_ret;rw[E.out];exact⟨rfl,hf.trans h1⟩
   ·have hq':z5p s=false:=by simpa using hq
    rw[show(decide (60 < s.1.size)||decide (60 < s.2.size))=false from hq'] at L
    have N:=hid (fun j t (hj:j < k+1) (ht:l[j]? = some t)=>(show z5p t=false by
     rcases Nat.lt_or_ge j k with h|h
     ·exact hno j t h ht
     ·have e:j=k:=by omega
      subst e;rw[hs] at ht;cases ht;exact hq'))
    clear hno hcell hs hq hq';go_wp2_with fail;refine(L.out _).mono ?_;rintro e w1 ⟨rfl,h1⟩;go_wp2;go_roundg (l.length - (k+1))
    case measure=>omega
    case rel=>exact⟨k+1,rfl,by omega,rfl,N.out,hf.trans h1⟩
  ·have E:=hid (z1z (q:=z5p) (l:=l) (fun j t ht=>hno j t (by have:=(List.getElem?_eq_some_iff.1 ht).1;omega) ht));clear hno;go_wp2;go_ret;rw[E.out];exact⟨rfl,hf⟩
def z6f(s:Int×ByteArray):Bool:=decide (60 < s.2.size)
theorem zc5(l:List (Int×ByteArray))(A:Option Addr)(c B:Nat)(w:World)(hl:l.length≤281474976710656)(hB:B≤w.heap.size)(hsl:Sl w B 2 (.slice A l.length c) l.length (z0h l)):
  Calls prog 171 #[.slice A l.length c,.func (Fn.func 115) #[] #[]] w fun e w'=>e=.returned (.int .i64 (z2w z6f l))∧Fr [] w w':=by
 have HS:=hid hsl;clear hsl;go_enter Tryz.func171,Tryz.ntmps171;go_wp2;go_loopg [5,8] l.length (fun g u i wr=>∃(k:Nat),g=l.length - k∧k≤l.length∧i=.int .i64 k∧(∀j t,j < k→l[j]? = some t→z6f t=false)∧Fr [] w wr)
 case atStart=>exact⟨0,rfl,Nat.zero_le _,rfl,fun j t hj=>absurd hj (Nat.not_lt_zero _),Fr.refl _ _⟩
 case round=>
  obtain⟨k,rfl,hk,rfl,hno,hf⟩:=hrel;by_cases hlt:k < l.length
  ·obtain⟨b,off,rfl,hb,hc,hm,hcell⟩:=HS.out.at_ (by omega);obtain⟨s,hs⟩:∃s,l[k]? = some s:=⟨_,List.getElem?_eq_getElem hlt⟩;have hc1:wr.cell? ⟨b,off+2 * k,none⟩=some (.int .i64 s.1):=hf.cell (hcell _ _ (z0f l k s hs).1) (by simp);have hc2:wr.cell? ⟨b,off+2 * k+1,none⟩=some (.string s.2):=hf.cell (hcell _ _ (z0f l k s hs).2) (by simp);rw[Nat.mul_comm 2 k] at hc1 hc2;have L:=hid (fun W=>zhn s.1 s.2 W);by_cases hq:z6f s=true
   ·have E:=hid (z1l hno hs hq);rw[show(decide (60 < s.2.size))=true from hq] at L;clear hno hcell hs hq;go_wp2_with fail;refine(L.out _).mono ?_;rintro e w1 ⟨rfl,h1⟩;go_wp2;go_ret;rw[E.out];exact⟨rfl,hf.trans h1⟩
   ·have hq':z6f s=false:=by simpa using hq
    rw[show(decide (60 < s.2.size))=false from hq'] at L
    have N:=hid (fun j t (hj:j < k+1) (ht:l[j]? = some t)=>(show z6f t=false by
     rcases Nat.lt_or_ge j k with h|h
     ·exact hno j t h ht
     ·have e:j=k:=by omega
      subst e;rw[hs] at ht;cases ht;exact hq'))
    clear hno hcell hs hq hq';go_wp2_with fail;refine(L.out _).mono ?_;rintro e w1 ⟨rfl,h1⟩;go_wp2;go_roundg (l.length - (k+1))
    case measure=>omega
    case rel=>exact⟨k+1,rfl,by omega,rfl,N.out,hf.trans h1⟩
  ·have E:=hid (z1z (q:=z6f) (l:=l) (fun j t ht=>hno j t (by have:=(List.getElem?_eq_some_iff.1 ht).1;omega) ht));clear hno;go_wp2;go_ret;rw[E.out];exact⟨rfl,hf⟩
theorem z3t{α:Type}(q:α→Bool)(l:List α):0≤z2w q l↔l.any q=true:=by
 cases h:l.any q with
 | false=>
  have:z2w q l=-1:=z1z (fun j t ht=>by
   have:=List.any_eq_false.1 h t (List.mem_of_getElem? ht);simpa using this)
  rw[this];simp
 | true=>
  obtain⟨t,ht,hq⟩:=List.any_eq_true.1 h;unfold z2w;cases hf:l.findIdx? q with
  | none=>
   rw[List.findIdx?_eq_none_iff] at hf;have:=hf t ht;rw[hq] at this;cases this
  | some i=>simp
theorem zem(l:List (ByteArray))(A:Option Addr)(c B:Nat)(w:World)(hl:l.length≤281474976710656)(hB:B≤w.heap.size)(hsl:Sl w B 1 (.slice A l.length c) l.length (z04 l)):
  Calls prog 93 #[.slice A l.length c,.func (Fn.func 55) #[] #[]] w fun e w'=>e=.returned (.bool (l.any z2r))∧Fr [] w w':=by
 have I:=hid (zcx l A c B w hl hB hsl);have h:=z3t z2r l;clear hsl;generalize z2w z2r l=r at *;generalize l.any z2r=b at *;generalize l.length=n at *;cases b
 ·have hr:r < 0:=by simpa using h
  clear h;go_enter Tryz.func93,Tryz.ntmps93;go_wp2_with fail;refine I.out.mono ?_;rintro e w1 ⟨rfl,h1⟩;go_wp2;go_ret;exact⟨by simp <;> omega,h1⟩
 ·have hr:0≤r:=by simpa using h
  clear h;go_enter Tryz.func93,Tryz.ntmps93;go_wp2_with fail;refine I.out.mono ?_;rintro e w1 ⟨rfl,h1⟩;go_wp2;go_ret;exact⟨by simp <;> omega,h1⟩
theorem zkw(l:List (ByteArray×ByteArray))(A:Option Addr)(c B:Nat)(w:World)(hl:l.length≤281474976710656)(hB:B≤w.heap.size)(hsl:Sl w B 2 (.slice A l.length c) l.length (z0t l)):
  Calls prog 112 #[.slice A l.length c,.func (Fn.func 113) #[] #[]] w fun e w'=>e=.returned (.bool (l.any z5p))∧Fr [] w w':=by
 have I:=hid (zbo l A c B w hl hB hsl);have h:=z3t z5p l;clear hsl;generalize z2w z5p l=r at *;generalize l.any z5p=b at *;generalize l.length=n at *;cases b
 ·have hr:r < 0:=by simpa using h
  clear h;go_enter Tryz.func112,Tryz.ntmps112;go_wp2_with fail;refine I.out.mono ?_;rintro e w1 ⟨rfl,h1⟩;go_wp2;go_ret;exact⟨by simp <;> omega,h1⟩
 ·have hr:0≤r:=by simpa using h
  clear h;go_enter Tryz.func112,Tryz.ntmps112;go_wp2_with fail;refine I.out.mono ?_;rintro e w1 ⟨rfl,h1⟩;go_wp2;go_ret;exact⟨by simp <;> omega,h1⟩
theorem zk9(l:List (Int×ByteArray))(A:Option Addr)(c B:Nat)(w:World)(hl:l.length≤281474976710656)(hB:B≤w.heap.size)(hsl:Sl w B 2 (.slice A l.length c) l.length (z0h l)):
  Calls prog 114 #[.slice A l.length c,.func (Fn.func 115) #[] #[]] w fun e w'=>e=.returned (.bool (l.any z6f))∧Fr [] w w':=by
 have I:=hid (zc5 l A c B w hl hB hsl);have h:=z3t z6f l;clear hsl;generalize z2w z6f l=r at *;generalize l.any z6f=b at *;generalize l.length=n at *;cases b
 ·have hr:r < 0:=by simpa using h
  clear h;go_enter Tryz.func114,Tryz.ntmps114;go_wp2_with fail;refine I.out.mono ?_;rintro e w1 ⟨rfl,h1⟩;go_wp2;go_ret;exact⟨by simp <;> omega,h1⟩
 ·have hr:0≤r:=by simpa using h
  clear h;go_enter Tryz.func114,Tryz.ntmps114;go_wp2_with fail;refine I.out.mono ?_;rintro e w1 ⟨rfl,h1⟩;go_wp2;go_ret;exact⟨by simp <;> omega,h1⟩
def zai(x:Itm):Bool:=x.list.any z2r||x.pairs.any z5p||x.scores.any z6f
theorem zay(x:Itm)(v:Value)(w:World)(B:Nat)(hs:x.Small)(hB:B≤w.heap.size)(h:z1m w B v x):
  Calls prog 87 #[v] w fun e w'=>e=.returned (.bool (zai x))∧Fr [] w w':=by
 obtain⟨A1,c1,A2,c2,A3,c3,rfl,h1,h2,h3⟩:=h;have S:=hid (fun W (hf:Fr [] w W)=>zem x.list A1 c1 B W hs.list (Nat.le_trans hB hf.size) (h1.fr hf hB (by simp)));have P:=hid (fun W (hf:Fr [] w W)=>zkw x.pairs A2 c2 B W hs.pairs (Nat.le_trans hB hf.size) (h2.fr hf hB (by simp)));have C:=hid (fun W (hf:Fr [] w W)=>zk9 x.scores A3 c3 B W hs.scores (Nat.le_trans hB hf.size) (h3.fr hf hB (by simp)));have hE:zai x=(x.list.any z2r||x.pairs.any z5p||x.scores.any z6f):=rfl
 clear h1 h2 h3 hs;generalize zai x=r at *;generalize x.list.any z2r=b1 at *;generalize x.pairs.any z5p=b2 at *;generalize x.scores.any z6f=b3 at *;generalize x.list.length=n1 at *;generalize x.pairs.length=n2 at *;generalize x.scores.length=n3 at *;generalize x.kind=k at *;generalize x.text=t at *;subst hE;have hz:Fr [] w (w.alloc (.cells #[.int .i64 k,.string t,.slice A1 n1 c1,.slice A2 n2 c2,.slice A3 n3 c3] 46)):=(Fr.refl [] w).alloc _;cases b1
 ·cases b2
  ·go_enter Tryz.func87,Tryz.ntmps87;go_wp2_with fail;refine(S.out _ hz).mono ?_;rintro e w1 ⟨rfl,f1⟩;have W0:Whole (w.alloc (.cells #[.int .i64 k,.string t,.slice A1 n1 c1,.slice A2 n2 c2,.slice A3 n3 c3] 46)) w.heap.size 46 [.int .i64 k,.string t,.slice A1 n1 c1,.slice A2 n2 c2,.slice A3 n3 c3]:=Whole.new w _ _;have W1:=W0.fr f1 (by simp);have d3:w1.cell? ⟨w.heap.size,3,none⟩=some (.slice A2 n2 c2):=W1.cell 3;have d4:w1.cell? ⟨w.heap.size,4,none⟩=some (.slice A3 n3 c3):=W1.cell 4;have HW:=hid W1;clear W0 W1;go_wp2_with fail;refine(P.out _ (hz.trans f1)).mono ?_;rintro e w2 ⟨rfl,f2⟩;have e4:w2.cell? ⟨w.heap.size,4,none⟩=some (.slice A3 n3 c3):=(HW.out.fr f2 (by simp)).cell 4;go_wp2_with fail;refine(C.out _ ((hz.trans f1).trans f2)).mono ?_;rintro e w3 ⟨rfl,f3⟩;go_wp2;go_ret;exact⟨by simp,((hz.trans f1).trans f2).trans f3⟩
  ·go_enter Tryz.func87,Tryz.ntmps87;go_wp2_with fail;refine(S.out _ hz).mono ?_;rintro e w1 ⟨rfl,f1⟩;have W0:Whole (w.alloc (.cells #[.int .i64 k,.string t,.slice A1 n1 c1,.slice A2 n2 c2,.slice A3 n3 c3] 46)) w.heap.size 46 [.int .i64 k,.string t,.slice A1 n1 c1,.slice A2 n2 c2,.slice A3 n3 c3]:=Whole.new w _ _;have W1:=W0.fr f1 (by simp);have d3:w1.cell? ⟨w.heap.size,3,none⟩=some (.slice A2 n2 c2):=W1.cell 3;have d4:w1.cell? ⟨w.heap.size,4,none⟩=some (.slice A3 n3 c3):=W1.cell 4;have HW:=hid W1;clear W0 W1;go_wp2_with fail;refine(P.out _ (hz.trans f1)).mono ?_;rintro e w2 ⟨rfl,f2⟩;go_wp2;go_ret;exact⟨rfl,(hz.trans f1).trans f2⟩
 ·go_enter Tryz.func87,Tryz.ntmps87;go_wp2_with fail;refine(S.out _ hz).mono ?_;rintro e w1 ⟨rfl,f1⟩;go_wp2;go_ret;exact⟨rfl,hz.trans f1⟩
def rises{α:Type}(lt:α→α→Bool):List α→Bool
 | []=>true
 | [_]=>true
 | a :: b :: r=>lt a b&&rises lt (b :: r)
theorem z6n{α:Type}{lt:α→α→Bool}{l:List α}{m:Nat}{a b:α}(ha:l[m]? = some a)(hb:l[m+1]? = some b):rises lt (l.drop m)=(lt a b&&rises lt (l.drop (m+1))):=by
 obtain⟨h1,e1⟩:=List.getElem?_eq_some_iff.1 ha;obtain⟨h2,e2⟩:=List.getElem?_eq_some_iff.1 hb;have d2:l.drop (m+1)=b :: l.drop (m+2):=by rw[List.drop_eq_getElem_cons h2,e2]
 rw[List.drop_eq_getElem_cons h1,e1,d2];rfl
theorem z8x{α:Type}{lt:α→α→Bool}{l:List α}{m:Nat}(h:l.length≤m+1):rises lt (l.drop m)=true:=by
 have:(l.drop m).length≤1:=by simp;omega
 match l.drop m,this with
 | [],_=>rfl
 | [_],_=>rfl
def ltS(a b:ByteArray):Bool:=decide (z36 a b < 0)
theorem zdm(l:List ByteArray)(A:Option Addr)(c B:Nat)(w:World)(hl:l.length≤281474976710656)(hB:B≤w.heap.size)(hsl:Sl w B 1 (.slice A l.length c) l.length (z04 l)):
  Calls prog 88 #[.slice A l.length c,.func (Fn.func 89) #[] #[]] w fun e w'=>e=.returned (.bool (rises ltS l))∧Fr [] w w':=by
 have HS:=hid hsl;clear hsl;go_enter Tryz.func88,Tryz.ntmps88;go_wp2;go_loopg [5] l.length (fun g i wr=>∃(m:Nat),g=l.length - m∧i=.int .i64 ((m:Int)+1)∧m≤l.length∧rises ltS (l.drop m)=rises ltS l∧Fr [] w wr)
 case atStart=>exact⟨0,rfl,rfl,Nat.zero_le _,rfl,Fr.refl _ _⟩
 case round=>
  obtain⟨m,rfl,rfl,hm,hR,hf⟩:=hrel;by_cases hlt:m+1 < l.length
  ·obtain⟨b,off,rfl,hb,hc,hmx,hcell⟩:=HS.out.at_ (by omega);obtain⟨s,hs⟩:∃s,l[m]? = some s:=⟨_,List.getElem?_eq_getElem (by omega)⟩;obtain⟨t,ht⟩:∃t,l[m+1]? = some t:=⟨_,List.getElem?_eq_getElem hlt⟩;have hc1:wr.cell? ⟨b,off+m,none⟩=some (.string s):=hf.cell (hcell m _ (z0x l m s hs)) (by simp);have hc2:wr.cell? ⟨b,off+(m+1),none⟩=some (.string t):=hf.cell (hcell (m+1) _ (z0x l (m+1) t ht)) (by simp);rw[z6n hs ht] at hR;have hC:∀W,Calls prog 89 #[.string s,.string t] W fun e w'=>e=.returned (.int .i64 (z36 s t))∧∃n,w'=W.drewN n:=fun W=>(z3e s t W).mono (fun e w' h=>⟨h.1,0,h.2⟩);have HC:=hid hC;clear hcell hs ht hC;have wr1:IntKind.i64.wrap ((m:Int)+1)=(m:Int)+1:=IntWalk.i64_in _ (by omega);have wr2:IntKind.i64.wrap (m:Int)=(m:Int):=IntWalk.i64_in _ (by omega);by_cases hq:z36 s t < 0
   ·rw[show ltS s t=true from decide_eq_true hq,Bool.true_and] at hR;have HR:=hid hR;clear hR;go_wp2;go_quiet ((go_at_call 89;exact Calls.quiet_of (HC.out _)));go_wp2;go_roundg (l.length - (m+1))
    case measure=>omega
    case rel=>exact⟨m+1,rfl,rfl,by omega,HR.out,hf.drewN _⟩
   ·rw[show ltS s t=false from decide_eq_false hq,Bool.false_and] at hR;have HR:=hid hR;clear hR;go_wp2;go_quiet ((go_at_call 89;exact Calls.quiet_of (HC.out _)));go_wp2;go_ret;rw[←HR.out];exact⟨rfl,hf.drewN _⟩
  ·rw[z8x (by omega)] at hR;have HR:=hid hR;clear hR;go_wp2;go_ret;rw[←HR.out];exact⟨rfl,hf⟩
def ltP(a b:ByteArray×ByteArray):Bool:=decide (z36 a.1 b.1 < 0)
def zmm(a b:Int×ByteArray):Int:=if a.1=b.1 then z36 a.2 b.2 else a.1 - b.1
def ltC(a b:Int×ByteArray):Bool:=decide (zmm a b < 0)
theorem zfx(a b:ByteArray×ByteArray)(w:World):Calls prog 91 #[.agg #[.string a.1,.string a.2],.agg #[.string b.1,.string b.2]] w fun e w'=>e=.returned (.int .i64 (z36 a.1 b.1))∧Fr [] w w':=by
 go_enter Tryz.func91,Tryz.ntmps91;go_wp2_with fail;refine(z3e _ _ _).mono ?_;rintro e w1 ⟨rfl,rfl⟩;go_wp2;go_ret;exact⟨rfl,((Fr.refl [] w).alloc _).alloc _⟩
theorem zh7(a b:Int×ByteArray)(w:World)(ha:z17 a.1=true)(hb:z17 b.1=true):Calls prog 118 #[.agg #[.int .i64 a.1,.string a.2],.agg #[.int .i64 b.1,.string b.2]] w fun e w'=>e=.returned (.int .i64 (zmm a b))∧Fr [] w w':=by
 simp only[z17,Bool.and_eq_true,decide_eq_true_eq] at ha hb;by_cases h:a.1=b.1
 ·have E:=hid (show zmm a b=z36 a.2 b.2 by unfold zmm;rw[if_pos h]);have hne:(a.1 != b.1)=false:=by simpa using h
  clear h;go_enter Tryz.func118,Tryz.ntmps118;go_wp2_with fail;refine(z3e _ _ _).mono ?_;rintro e w1 ⟨rfl,rfl⟩;go_wp2;go_ret;rw[E.out];exact⟨rfl,((Fr.refl [] w).alloc _).alloc _⟩
 ·have E:=hid (show zmm a b=a.1 - b.1 by unfold zmm;rw[if_neg h]);have hne:(a.1 != b.1)=true:=by simpa using h
  have hw:IntKind.i64.wrap (a.1 - b.1)=a.1 - b.1:=IntWalk.i64_in _ (by omega);clear h;go_enter Tryz.func118,Tryz.ntmps118;go_wp2;go_ret;rw[E.out];exact⟨rfl,((Fr.refl [] w).alloc _).alloc _⟩
end Go.Proofs.YtmkhmejempcimaaGreatDoor
