/- Contracts that the proof of E3 uses. No condition beyond those in each theorem. -/
import Derived.Test.YtamgdmiopinidaaGreatDoorSlE30
import Derived.Deep.DeepCutAuto
import Derived.Deep.LoopGhost
import Derived.IntWalk
import Derived.Laws.AppendOwn
import Derived.Test.YtamgdmiopinidaaGreatDoorProg
set_option linter.unusedVariables false
set_option linter.unusedSimpArgs false
set_option maxHeartbeats 8000000
set_option maxRecDepth 100000
namespace Go.Proofs.YtamgdmiopinidaaGreatDoor
open Lib (hid)
open Tryz (prog)
open Go.RowKit
attribute [local go_sem] z1k
theorem zvn(n a b:Int)(w:World):Calls prog 31 #[.int .i64 n,.int .i64 a,.int .i64 b] w fun e w'=>e=.returned (.bool (decide (a≤n)&&decide (n≤b)))∧w'=w:=by
 by_cases h:a≤n
 ·go_enter Tryz.func31,Tryz.ntmps31
  go_wp2
  go_ret
  simp[h]
 ·go_enter Tryz.func31,Tryz.ntmps31
  go_wp2
  go_ret
  simp[h]
  try omega
theorem zeb(n a b:Int)(w:World):Calls prog 116 #[.int .i64 n,.int .i64 a,.int .i64 b] w fun e w'=>e=.returned (.bool (decide (a≤n)&&decide (n≤b)))∧w'=w:=by
 by_cases h:a≤n
 ·go_enter Tryz.func116,Tryz.ntmps116
  go_wp2
  go_ret
  simp[h]
 ·go_enter Tryz.func116,Tryz.ntmps116
  go_wp2
  go_ret
  simp[h]
  try omega
theorem z6h(n:Int)(w:World):Calls prog 103 #[.int .i64 n] w fun e w'=>e=.returned (.bool (z0m n))∧w'=w:=by
 go_enter Tryz.func103,Tryz.ntmps103
 go_wp2_with fail
 refine(zeb _ _ _ _).mono ?_
 rintro e w1 ⟨rfl,rfl⟩
 go_wp2
 go_ret
 exact⟨rfl,rfl⟩
theorem z2w(s:ByteArray)(w:World):Calls prog 81 #[.string s] w fun e w'=>e=.returned (.bool (decide (60 < s.size)))∧w'=w:=by
 have hi:(60 < (s.size:Int))↔60 < s.size:=by omega
 go_enter Tryz.func81,Tryz.ntmps81
 go_wp2
 go_ret
 simp[hi]
theorem zfe(a b:ByteArray)(w:World):Calls prog 160 #[.string a,.string b] w fun e w'=>e=.returned (.int .i64 (z4m a b))∧w'=w:=by
 go_enter Tryz.func160,Tryz.ntmps160
 go_wp2
 rw[run_callFunc_extern Tryz.func220 (by kernel_rfl) (by kernel_rfl) (by kernel_rfl) (e:=Extern.BytealgCompare.compare) (by kernel_rfl),Lib.run_compareString]
 simp only[Result.andThen]
 rw[Oper.upon_value]
 go_wp2
 go_ret
 exact⟨rfl,rfl⟩
theorem z71(a b:ByteArray)(w:World):Calls prog 121 #[.string a,.string b] w fun e w'=>e=.returned (.int .i64 (z4m a b))∧w'=w:=by
 go_enter Tryz.func121,Tryz.ntmps121
 go_wp2_with fail
 refine(zfe _ _ _).mono ?_
 rintro e w1 ⟨rfl,rfl⟩
 go_wp2
 go_ret
 exact⟨rfl,rfl⟩
theorem zt1(a b:ByteArray)(w:World)(ha:a.size≤281474976710656)(hb:b.size≤281474976710656) :
  Calls prog 88 #[.string a,.string b] w fun e w'=>e=.returned (.int .i64 (z4m a b))∧∃n,w'=w.drewN n:=by
 go_enter Tryz.func88,Tryz.ntmps88
 go_wp2
 go_loopg [5] a.size (fun g i wr=>∃(k n:Nat),g=a.size - k∧k≤a.size∧k≤b.size∧i=.int .i64 k∧zi6 a b k=z4m a b∧wr=w.drewN n)
 case atStart=>exact⟨0,0,rfl,Nat.zero_le _,Nat.zero_le _,rfl,zmw a b,rfl⟩
 case round=>
  obtain⟨k,n,rfl,hka,hkb,rfl,hR,rfl⟩:=hrel
  by_cases h:k < a.size∧k < b.size
  ·obtain⟨h1,h2⟩:=h
   rw[zll a b k h1 h2] at hR
   by_cases c1:z04 a k < z04 b k
   ·rw[if_pos c1] at hR
    have HR:=hid hR
    clear hR
    go_wp2
    go_quiet (fail)
    go_wp2
    go_ret
    rw[←HR.out]
    exact⟨rfl,_,World.drewN_drewN _ _ _⟩
   ·rw[if_neg c1] at hR
    by_cases c2:z04 b k < z04 a k
    ·rw[if_pos c2] at hR
     have HR:=hid hR
     clear hR
     go_wp2
     go_quiet (fail)
     go_wp2
     go_quiet (fail)
     go_wp2
     go_ret
     rw[←HR.out]
     exact⟨rfl,_,(World.drewN_drewN _ _ _).trans (by rw[World.drewN_drewN])⟩
    ·rw[if_neg c2] at hR
     have HR:=hid hR
     clear hR
     go_wp2
     go_quiet (fail)
     go_wp2
     go_quiet (fail)
     go_wp2
     go_roundg (a.size - (k+1))
     case measure=>omega
     case rel=>exact⟨k+1,_,rfl,by omega,by omega,rfl,HR.out,rfl⟩
  ·rw[zpx a b k hka hkb h] at hR
   have hab:a.size < b.size∨b.size < a.size∨a.size=b.size:=by omega
   have hk:¬k < a.size∨(k < a.size∧¬k < b.size):=by omega
   rcases hab with hab|hab|hab
   ·rw[if_pos hab] at hR
    have HR:=hid hR
    clear hR h
    rcases hk with hk|⟨hk,hk2⟩
    ·go_wp2
     go_ret
     rw[←HR.out]
     exact⟨rfl,_,rfl⟩
    ·omega
   ·rw[if_neg (by omega),if_pos hab] at hR
    have HR:=hid hR
    clear hR h
    rcases hk with hk|⟨hk,hk2⟩
    ·omega
    ·go_wp2
     go_ret
     rw[←HR.out]
     exact⟨rfl,_,rfl⟩
   ·rw[if_neg (by omega),if_neg (by omega)] at hR
    have HR:=hid hR
    clear hR h
    rcases hk with hk|⟨hk,hk2⟩
    ·go_wp2
     go_ret
     rw[←HR.out]
     exact⟨rfl,_,rfl⟩
    ·omega
theorem zkg(x:Itm)(v:Value)(w:World)(B:Nat)(hs:x.Small)(h:z0q w B v x) :
  Calls prog 118 #[v] w fun e w'=>e=.returned (.int .i64 (many x))∧Fr [] w w':=by
 obtain⟨A1,c1,A2,c2,A3,c3,rfl,h1,h2,h3⟩:=h
 have s1:=hs.list
 have s2:=hs.pairs
 have s3:=hs.scores
 have hE:((many x:Nat):Int)=(x.list.length:Int)+x.pairs.length+x.scores.length:=by unfold many;omega
 clear h1 h2 h3
 generalize x.list.length=n1 at *
 generalize x.pairs.length=n2 at *
 generalize x.scores.length=n3 at *
 generalize many x=m at *
 generalize x.kind=k at *
 generalize x.text=t at *
 go_enter Tryz.func118,Tryz.ntmps118
 go_wp2
 go_ret
 rw[hE]
 refine⟨rfl,?_⟩
 exact(Fr.refl [] w).alloc _
theorem zx3(t:ByteArray):(t.toList==ByteArray.toList ⟨#[]⟩)=decide (t.size=0):=by
 rw[eqB]
 by_cases h:t.size=0
 ·have:t=⟨#[]⟩:=by
   cases t with
   | mk d=>
    congr 1
    exact Array.eq_empty_of_size_eq_zero h
  subst this
  exact(decide_eq_true rfl).trans (decide_eq_true rfl).symm
 ·have:t≠⟨#[]⟩:=fun e=>h (by rw[e];rfl)
  simp[h,this]
theorem zke(x:Itm)(v:Value)(w:World)(B:Nat)(hs:x.Small)(h:z0q w B v x) :
  Calls prog 117 #[v] w fun e w'=>e=.returned (.bool (z6g x))∧Fr [] w w':=by
 obtain⟨A1,c1,A2,c2,A3,c3,rfl,h1,h2,h3⟩:=h
 have s1:=hs.list
 have s2:=hs.pairs
 have s3:=hs.scores
 have hT:=zx3 x.text
 rw[show ByteArray.toList ⟨#[]⟩=[] from by decide +kernel] at hT
 have hL:((x.list.length:Int)==0)=(x.list.length==0):=by rw[Bool.eq_iff_iff];simp
 have hP:((x.pairs.length:Int)==0)=(x.pairs.length==0):=by rw[Bool.eq_iff_iff];simp
 have hS:((x.scores.length:Int)==0)=(x.scores.length==0):=by rw[Bool.eq_iff_iff];simp
 have hE:z6g x=((x.kind==1||x.text.size==0)&&(x.kind==2||x.kind==3||x.list.length==0)&&(x.kind==4||x.pairs.length==0)&&(x.kind==5||x.scores.length==0)):=rfl
 clear h1 h2 h3 hs
 generalize (x.list.length==0)=bL at *
 generalize (x.pairs.length==0)=bP at *
 generalize (x.scores.length==0)=bS at *
 rw[show(x.text.size==0)=decide (x.text.size=0) from rfl] at hE
 generalize decide (x.text.size=0)=bT at *
 generalize x.list.length=n1 at *
 generalize x.pairs.length=n2 at *
 generalize x.scores.length=n3 at *
 generalize z6g x=r at *
 generalize x.kind=k at *
 generalize x.text=t at *
 by_cases k1:k=1
 ·subst k1
  cases bL
  ·have HE:=hid hE
   clear hE
   go_enter Tryz.func117,Tryz.ntmps117
   go_wp2
   go_ret
   rw[HE.out]
   exact⟨by simp[hT],(Fr.refl [] w).alloc _⟩
  ·cases bP
   ·have HE:=hid hE
    clear hE
    go_enter Tryz.func117,Tryz.ntmps117
    go_wp2
    go_ret
    rw[HE.out]
    exact⟨by simp[hT],(Fr.refl [] w).alloc _⟩
   ·cases bS
    ·have HE:=hid hE
     clear hE
     go_enter Tryz.func117,Tryz.ntmps117
     go_wp2
     go_ret
     rw[HE.out]
     exact⟨by simp[hT],(Fr.refl [] w).alloc _⟩
    ·have HE:=hid hE
     clear hE
     go_enter Tryz.func117,Tryz.ntmps117
     go_wp2
     go_ret
     rw[HE.out]
     exact⟨by simp[hT],(Fr.refl [] w).alloc _⟩
 by_cases k2:k=2
 ·subst k2
  cases bT
  ·have HE:=hid hE
   clear hE
   go_enter Tryz.func117,Tryz.ntmps117
   go_wp2
   go_ret
   rw[HE.out]
   exact⟨by simp[hT],(Fr.refl [] w).alloc _⟩
  ·cases bP
   ·have HE:=hid hE
    clear hE
    go_enter Tryz.func117,Tryz.ntmps117
    go_wp2
    go_ret
    rw[HE.out]
    exact⟨by simp[hT],(Fr.refl [] w).alloc _⟩
   ·cases bS
    ·have HE:=hid hE
     clear hE
     go_enter Tryz.func117,Tryz.ntmps117
     go_wp2
     go_ret
     rw[HE.out]
     exact⟨by simp[hT],(Fr.refl [] w).alloc _⟩
    ·have HE:=hid hE
     clear hE
     go_enter Tryz.func117,Tryz.ntmps117
     go_wp2
     go_ret
     rw[HE.out]
     exact⟨by simp[hT],(Fr.refl [] w).alloc _⟩
 by_cases k3:k=3
 ·subst k3
  cases bT
  ·have HE:=hid hE
   clear hE
   go_enter Tryz.func117,Tryz.ntmps117
   go_wp2
   go_ret
   rw[HE.out]
   exact⟨by simp[hT],(Fr.refl [] w).alloc _⟩
  ·cases bP
   ·have HE:=hid hE
    clear hE
    go_enter Tryz.func117,Tryz.ntmps117
    go_wp2
    go_ret
    rw[HE.out]
    exact⟨by simp[hT],(Fr.refl [] w).alloc _⟩
   ·cases bS
    ·have HE:=hid hE
     clear hE
     go_enter Tryz.func117,Tryz.ntmps117
     go_wp2
     go_ret
     rw[HE.out]
     exact⟨by simp[hT],(Fr.refl [] w).alloc _⟩
    ·have HE:=hid hE
     clear hE
     go_enter Tryz.func117,Tryz.ntmps117
     go_wp2
     go_ret
     rw[HE.out]
     exact⟨by simp[hT],(Fr.refl [] w).alloc _⟩
 by_cases k4:k=4
 ·subst k4
  cases bT
  ·have HE:=hid hE
   clear hE
   go_enter Tryz.func117,Tryz.ntmps117
   go_wp2
   go_ret
   rw[HE.out]
   exact⟨by simp[hT],(Fr.refl [] w).alloc _⟩
  ·cases bL
   ·have HE:=hid hE
    clear hE
    go_enter Tryz.func117,Tryz.ntmps117
    go_wp2
    go_ret
    rw[HE.out]
    exact⟨by simp[hT],(Fr.refl [] w).alloc _⟩
   ·cases bS
    ·have HE:=hid hE
     clear hE
     go_enter Tryz.func117,Tryz.ntmps117
     go_wp2
     go_ret
     rw[HE.out]
     exact⟨by simp[hT],(Fr.refl [] w).alloc _⟩
    ·have HE:=hid hE
     clear hE
     go_enter Tryz.func117,Tryz.ntmps117
     go_wp2
     go_ret
     rw[HE.out]
     exact⟨by simp[hT],(Fr.refl [] w).alloc _⟩
 by_cases k5:k=5
 ·subst k5
  cases bT
  ·have HE:=hid hE
   clear hE
   go_enter Tryz.func117,Tryz.ntmps117
   go_wp2
   go_ret
   rw[HE.out]
   exact⟨by simp[hT],(Fr.refl [] w).alloc _⟩
  ·cases bL
   ·have HE:=hid hE
    clear hE
    go_enter Tryz.func117,Tryz.ntmps117
    go_wp2
    go_ret
    rw[HE.out]
    exact⟨by simp[hT],(Fr.refl [] w).alloc _⟩
   ·cases bP
    ·have HE:=hid hE
     clear hE
     go_enter Tryz.func117,Tryz.ntmps117
     go_wp2
     go_ret
     rw[HE.out]
     exact⟨by simp[hT],(Fr.refl [] w).alloc _⟩
    ·have HE:=hid hE
     clear hE
     go_enter Tryz.func117,Tryz.ntmps117
     go_wp2
     go_ret
     rw[HE.out]
     exact⟨by simp[hT],(Fr.refl [] w).alloc _⟩
 have q1:(k==1)=false:=by simpa using k1
 have q2:(k==2)=false:=by simpa using k2
 have q3:(k==3)=false:=by simpa using k3
 have q4:(k==4)=false:=by simpa using k4
 have q5:(k==5)=false:=by simpa using k5
 cases bT
 ·have HE:=hid hE
  clear hE
  go_enter Tryz.func117,Tryz.ntmps117
  go_wp2
  go_ret
  rw[HE.out]
  exact⟨by simp[hT,q1,q2,q3,q4,q5],(Fr.refl [] w).alloc _⟩
 ·cases bL
  ·have HE:=hid hE
   clear hE
   go_enter Tryz.func117,Tryz.ntmps117
   go_wp2
   go_ret
   rw[HE.out]
   exact⟨by simp[hT,q1,q2,q3,q4,q5],(Fr.refl [] w).alloc _⟩
  ·cases bP
   ·have HE:=hid hE
    clear hE
    go_enter Tryz.func117,Tryz.ntmps117
    go_wp2
    go_ret
    rw[HE.out]
    exact⟨by simp[hT,q1,q2,q3,q4,q5],(Fr.refl [] w).alloc _⟩
   ·cases bS
    ·have HE:=hid hE
     clear hE
     go_enter Tryz.func117,Tryz.ntmps117
     go_wp2
     go_ret
     rw[HE.out]
     exact⟨by simp[hT,q1,q2,q3,q4,q5],(Fr.refl [] w).alloc _⟩
    ·have HE:=hid hE
     clear hE
     go_enter Tryz.func117,Tryz.ntmps117
     go_wp2
     go_ret
     rw[HE.out]
     exact⟨by simp[hT,q1,q2,q3,q4,q5],(Fr.refl [] w).alloc _⟩
theorem znv(a b:ByteArray)(w:World):Calls prog 157 #[.agg #[.string a,.string b]] w fun e w'=>e=.returned (.bool (decide (60 < a.size)||decide (60 < b.size)))∧Fr [] w w':=by
 have L1:=hid (fun W=>z2w a W)
 have L2:=hid (fun W=>z2w b W)
 by_cases h:60 < a.size
 ·rw[decide_eq_true h] at L1 ⊢
  go_enter Tryz.func157,Tryz.ntmps157
  go_wp2_with fail
  refine(L1.out _).mono ?_
  rintro e w1 ⟨rfl,rfl⟩
  go_wp2
  go_ret
  exact⟨rfl,(Fr.refl [] w).alloc _⟩
 ·rw[decide_eq_false h] at L1 ⊢
  go_enter Tryz.func157,Tryz.ntmps157
  go_wp2_with fail
  refine(L1.out _).mono ?_
  rintro e w1 ⟨rfl,rfl⟩
  go_wp2_with fail
  refine(L2.out _).mono ?_
  rintro e w1 ⟨rfl,rfl⟩
  go_wp2
  go_ret
  exact⟨rfl,(Fr.refl [] w).alloc _⟩
theorem zqz(a:Int)(b:ByteArray)(w:World):Calls prog 159 #[.agg #[.int .i64 a,.string b]] w fun e w'=>e=.returned (.bool (decide (60 < b.size)))∧Fr [] w w':=by
 go_enter Tryz.func159,Tryz.ntmps159
 go_wp2_with fail
 refine(z2w _ _).mono ?_
 rintro e w1 ⟨rfl,rfl⟩
 go_wp2
 go_ret
 exact⟨rfl,(Fr.refl [] w).alloc _⟩
def z3c{α:Type}(q:α→Bool)(l:List α):Int:=match l.findIdx? q with|some i=>i|none=>-1
theorem z2q{α:Type}{q:α→Bool}{l:List α}{k:Nat}{s:α}(h:∀(j:Nat) t,j < k→l[j]? = some t→q t=false)(hk:l[k]? = some s)(hq:q s=true):z3c q l=k:=by
 have:l.findIdx? q=some k:=by
  rw[List.findIdx?_eq_some_iff_getElem]
  obtain⟨hlt,he⟩:=List.getElem?_eq_some_iff.1 hk
  exact⟨hlt,by rw[he];exact hq,fun j hj=>by rw[h j _ hj (List.getElem?_eq_getElem (by omega))];decide⟩
 unfold z3c;rw[this]
theorem z39{α:Type}{q:α→Bool}{l:List α}(h:∀(j:Nat) t,l[j]? = some t→q t=false):z3c q l=-1:=by
 have:l.findIdx? q=none:=by
  rw[List.findIdx?_eq_none_iff]
  intro t ht
  obtain⟨j,hj⟩:=List.getElem?_of_mem ht
  exact h j t hj
 unfold z3c;rw[this]
def z40(s:ByteArray):Bool:=decide (60 < s.size)
theorem zj1(l:List ByteArray)(A:Option Addr)(c B:Nat)(w:World)(hl:l.length≤281474976710656)(hB:B≤w.heap.size)(hsl:Sl w B 1 (.slice A l.length c) l.length (z03 l)) :
  Calls prog 136 #[.slice A l.length c,.func (Fn.func 81) #[] #[]] w fun e w'=>e=.returned (.int .i64 (z3c z40 l))∧Fr [] w w':=by
 have HS:=hid hsl
 clear hsl
 go_enter Tryz.func136,Tryz.ntmps136
 go_wp2
 go_loopg [5,8] l.length (fun g u i wr=>∃(k:Nat),g=l.length - k∧k≤l.length∧i=.int .i64 k∧(∀j t,j < k→l[j]? = some t→z40 t=false)∧Fr [] w wr)
 case atStart=>exact⟨0,rfl,Nat.zero_le _,rfl,fun j t hj=>absurd hj (Nat.not_lt_zero _),Fr.refl _ _⟩
 case round=>
  obtain⟨k,rfl,hk,rfl,hno,hf⟩:=hrel
  by_cases hlt:k < l.length
  ·obtain⟨b,off,rfl,hb,hc,hm,hcell⟩:=HS.out.at_ (by omega)
   obtain⟨s,hs⟩:∃s,l[k]? = some s:=⟨_,List.getElem?_eq_getElem hlt⟩
   have hc1:wr.cell? ⟨b,off+k,none⟩=some (.string s):=hf.cell (hcell k _ (z15 l k s hs)) (by simp)
   have L:=hid (fun W=>z2w s W)
   by_cases hq:z40 s=true
   ·have E:=hid (z2q hno hs hq)
    rw[show decide (60 < s.size)=true from hq] at L
    clear hno hcell hs hq
    go_wp2_with fail
    refine(L.out _).mono ?_
    rintro e w1 ⟨rfl,rfl⟩
    go_wp2
    go_ret
    rw[E.out]
    exact⟨rfl,hf⟩
   ·have hq':z40 s=false:=by simpa using hq
    rw[show decide (60 < s.size)=false from hq'] at L
    have N:=hid (fun j t (hj:j < k+1) (ht:l[j]? = some t)=>(show z40 t=false by
     rcases Nat.lt_or_ge j k with h|h
     ·exact hno j t h ht
     ·have e:j=k:=by omega
      subst e
      rw[hs] at ht
      cases ht
      exact hq'))
    clear hno hcell hs hq hq'
    go_wp2_with fail
    refine(L.out _).mono ?_
    rintro e w1 ⟨rfl,rfl⟩
    go_wp2
    go_roundg (l.length - (k+1))
    case measure=>omega
    case rel=>exact⟨k+1,rfl,by omega,rfl,N.out,hf⟩
  ·have E:=hid (z39 (q:=z40) (l:=l) (fun j t ht=>hno j t (by have:=(List.getElem?_eq_some_iff.1 ht).1;omega) ht))
   clear hno
   go_wp2
   go_ret
   rw[E.out]
   exact⟨rfl,hf⟩
def z4p(s:ByteArray×ByteArray):Bool:=decide (60 < s.1.size)||decide (60 < s.2.size)
theorem zh3(l:List (ByteArray×ByteArray))(A:Option Addr)(c B:Nat)(w:World)(hl:l.length≤281474976710656)(hB:B≤w.heap.size)(hsl:Sl w B 2 (.slice A l.length c) l.length (z0e l)) :
  Calls prog 218 #[.slice A l.length c,.func (Fn.func 157) #[] #[]] w fun e w'=>e=.returned (.int .i64 (z3c z4p l))∧Fr [] w w':=by
 have HS:=hid hsl
 clear hsl
 go_enter Tryz.func218,Tryz.ntmps218
 go_wp2
 go_loopg [5,8] l.length (fun g u i wr=>∃(k:Nat),g=l.length - k∧k≤l.length∧i=.int .i64 k∧(∀j t,j < k→l[j]? = some t→z4p t=false)∧Fr [] w wr)
 case atStart=>exact⟨0,rfl,Nat.zero_le _,rfl,fun j t hj=>absurd hj (Nat.not_lt_zero _),Fr.refl _ _⟩
 case round=>
  obtain⟨k,rfl,hk,rfl,hno,hf⟩:=hrel
  by_cases hlt:k < l.length
  ·obtain⟨b,off,rfl,hb,hc,hm,hcell⟩:=HS.out.at_ (by omega)
   obtain⟨s,hs⟩:∃s,l[k]? = some s:=⟨_,List.getElem?_eq_getElem hlt⟩
   have hc1:wr.cell? ⟨b,off+2 * k,none⟩=some (.string s.1):=hf.cell (hcell _ _ (z0g l k s hs).1) (by simp)
   have hc2:wr.cell? ⟨b,off+2 * k+1,none⟩=some (.string s.2):=hf.cell (hcell _ _ (z0g l k s hs).2) (by simp)
   rw[Nat.mul_comm 2 k] at hc1 hc2
   have L:=hid (fun W=>znv s.1 s.2 W)
   by_cases hq:z4p s=true
   ·have E:=hid (z2q hno hs hq)
    rw[show(decide (60 < s.1.size)||decide (60 < s.2.size))=true from hq] at L
    clear hno hcell hs hq
    go_wp2_with fail
    refine(L.out _).mono ?_
    rintro e w1 ⟨rfl,h1⟩
    go_wp2
    go_ret
    rw[E.out]
    exact⟨rfl,hf.trans h1⟩
   ·have hq':z4p s=false:=by simpa using hq
    rw[show(decide (60 < s.1.size)||decide (60 < s.2.size))=false from hq'] at L
    have N:=hid (fun j t (hj:j < k+1) (ht:l[j]? = some t)=>(show z4p t=false by
     rcases Nat.lt_or_ge j k with h|h
     ·exact hno j t h ht
     ·have e:j=k:=by omega
      subst e
      rw[hs] at ht
      cases ht
      exact hq'))
    clear hno hcell hs hq hq'
    go_wp2_with fail
    refine(L.out _).mono ?_
    rintro e w1 ⟨rfl,h1⟩
    go_wp2
    go_roundg (l.length - (k+1))
    case measure=>omega
    case rel=>exact⟨k+1,rfl,by omega,rfl,N.out,hf.trans h1⟩
  ·have E:=hid (z39 (q:=z4p) (l:=l) (fun j t ht=>hno j t (by have:=(List.getElem?_eq_some_iff.1 ht).1;omega) ht))
   clear hno
   go_wp2
   go_ret
   rw[E.out]
   exact⟨rfl,hf⟩
def z8l(s:Int×ByteArray):Bool:=decide (60 < s.2.size)
theorem zhi(l:List (Int×ByteArray))(A:Option Addr)(c B:Nat)(w:World)(hl:l.length≤281474976710656)(hB:B≤w.heap.size)(hsl:Sl w B 2 (.slice A l.length c) l.length (z08 l)) :
  Calls prog 219 #[.slice A l.length c,.func (Fn.func 159) #[] #[]] w fun e w'=>e=.returned (.int .i64 (z3c z8l l))∧Fr [] w w':=by
 have HS:=hid hsl
 clear hsl
 go_enter Tryz.func219,Tryz.ntmps219
 go_wp2
 go_loopg [5,8] l.length (fun g u i wr=>∃(k:Nat),g=l.length - k∧k≤l.length∧i=.int .i64 k∧(∀j t,j < k→l[j]? = some t→z8l t=false)∧Fr [] w wr)
 case atStart=>exact⟨0,rfl,Nat.zero_le _,rfl,fun j t hj=>absurd hj (Nat.not_lt_zero _),Fr.refl _ _⟩
 case round=>
  obtain⟨k,rfl,hk,rfl,hno,hf⟩:=hrel
  by_cases hlt:k < l.length
  ·obtain⟨b,off,rfl,hb,hc,hm,hcell⟩:=HS.out.at_ (by omega)
   obtain⟨s,hs⟩:∃s,l[k]? = some s:=⟨_,List.getElem?_eq_getElem hlt⟩
   have hc1:wr.cell? ⟨b,off+2 * k,none⟩=some (.int .i64 s.1):=hf.cell (hcell _ _ (z0b l k s hs).1) (by simp)
   have hc2:wr.cell? ⟨b,off+2 * k+1,none⟩=some (.string s.2):=hf.cell (hcell _ _ (z0b l k s hs).2) (by simp)
   rw[Nat.mul_comm 2 k] at hc1 hc2
   have L:=hid (fun W=>zqz s.1 s.2 W)
   by_cases hq:z8l s=true
   ·have E:=hid (z2q hno hs hq)
    rw[show(decide (60 < s.2.size))=true from hq] at L
    clear hno hcell hs hq
    go_wp2_with fail
    refine(L.out _).mono ?_
    rintro e w1 ⟨rfl,h1⟩
    go_wp2
    go_ret
    rw[E.out]
    exact⟨rfl,hf.trans h1⟩
   ·have hq':z8l s=false:=by simpa using hq
    rw[show(decide (60 < s.2.size))=false from hq'] at L
    have N:=hid (fun j t (hj:j < k+1) (ht:l[j]? = some t)=>(show z8l t=false by
     rcases Nat.lt_or_ge j k with h|h
     ·exact hno j t h ht
     ·have e:j=k:=by omega
      subst e
      rw[hs] at ht
      cases ht
      exact hq'))
    clear hno hcell hs hq hq'
    go_wp2_with fail
    refine(L.out _).mono ?_
    rintro e w1 ⟨rfl,h1⟩
    go_wp2
    go_roundg (l.length - (k+1))
    case measure=>omega
    case rel=>exact⟨k+1,rfl,by omega,rfl,N.out,hf.trans h1⟩
  ·have E:=hid (z39 (q:=z8l) (l:=l) (fun j t ht=>hno j t (by have:=(List.getElem?_eq_some_iff.1 ht).1;omega) ht))
   clear hno
   go_wp2
   go_ret
   rw[E.out]
   exact⟨rfl,hf⟩
theorem z7l{α:Type}(q:α→Bool)(l:List α):0≤z3c q l↔l.any q=true:=by
 cases h:l.any q with
 | false=>
  have:z3c q l=-1:=z39 (fun j t ht=>by
   have:=List.any_eq_false.1 h t (List.mem_of_getElem? ht)
   simpa using this)
  rw[this]
  simp
 | true=>
  obtain⟨t,ht,hq⟩:=List.any_eq_true.1 h
  unfold z3c
  cases hf:l.findIdx? q with
  | none=>
   rw[List.findIdx?_eq_none_iff] at hf
   have:=hf t ht
   rw[hq] at this
   cases this
  | some i=>simp
theorem zl1(l:List (ByteArray))(A:Option Addr)(c B:Nat)(w:World)(hl:l.length≤281474976710656)(hB:B≤w.heap.size)(hsl:Sl w B 1 (.slice A l.length c) l.length (z03 l)) :
  Calls prog 99 #[.slice A l.length c,.func (Fn.func 81) #[] #[]] w fun e w'=>e=.returned (.bool (l.any z40))∧Fr [] w w':=by
 have I:=hid (zj1 l A c B w hl hB hsl)
 have h:=z7l z40 l
 clear hsl
 generalize z3c z40 l=r at *
 generalize l.any z40=b at *
 generalize l.length=n at *
 cases b
 ·have hr:r < 0:=by simpa using h
  clear h
  go_enter Tryz.func99,Tryz.ntmps99
  go_wp2_with fail
  refine I.out.mono ?_
  rintro e w1 ⟨rfl,h1⟩
  go_wp2
  go_ret
  exact⟨by simp <;> omega,h1⟩
 ·have hr:0≤r:=by simpa using h
  clear h
  go_enter Tryz.func99,Tryz.ntmps99
  go_wp2_with fail
  refine I.out.mono ?_
  rintro e w1 ⟨rfl,h1⟩
  go_wp2
  go_ret
  exact⟨by simp <;> omega,h1⟩
theorem zsh(l:List (ByteArray×ByteArray))(A:Option Addr)(c B:Nat)(w:World)(hl:l.length≤281474976710656)(hB:B≤w.heap.size)(hsl:Sl w B 2 (.slice A l.length c) l.length (z0e l)) :
  Calls prog 156 #[.slice A l.length c,.func (Fn.func 157) #[] #[]] w fun e w'=>e=.returned (.bool (l.any z4p))∧Fr [] w w':=by
 have I:=hid (zh3 l A c B w hl hB hsl)
 have h:=z7l z4p l
 clear hsl
 generalize z3c z4p l=r at *
 generalize l.any z4p=b at *
 generalize l.length=n at *
 cases b
 ·have hr:r < 0:=by simpa using h
  clear h
  go_enter Tryz.func156,Tryz.ntmps156
  go_wp2_with fail
  refine I.out.mono ?_
  rintro e w1 ⟨rfl,h1⟩
  go_wp2
  go_ret
  exact⟨by simp <;> omega,h1⟩
 ·have hr:0≤r:=by simpa using h
  clear h
  go_enter Tryz.func156,Tryz.ntmps156
  go_wp2_with fail
  refine I.out.mono ?_
  rintro e w1 ⟨rfl,h1⟩
  go_wp2
  go_ret
  exact⟨by simp <;> omega,h1⟩
theorem ztc(l:List (Int×ByteArray))(A:Option Addr)(c B:Nat)(w:World)(hl:l.length≤281474976710656)(hB:B≤w.heap.size)(hsl:Sl w B 2 (.slice A l.length c) l.length (z08 l)) :
  Calls prog 158 #[.slice A l.length c,.func (Fn.func 159) #[] #[]] w fun e w'=>e=.returned (.bool (l.any z8l))∧Fr [] w w':=by
 have I:=hid (zhi l A c B w hl hB hsl)
 have h:=z7l z8l l
 clear hsl
 generalize z3c z8l l=r at *
 generalize l.any z8l=b at *
 generalize l.length=n at *
 cases b
 ·have hr:r < 0:=by simpa using h
  clear h
  go_enter Tryz.func158,Tryz.ntmps158
  go_wp2_with fail
  refine I.out.mono ?_
  rintro e w1 ⟨rfl,h1⟩
  go_wp2
  go_ret
  exact⟨by simp <;> omega,h1⟩
 ·have hr:0≤r:=by simpa using h
  clear h
  go_enter Tryz.func158,Tryz.ntmps158
  go_wp2_with fail
  refine I.out.mono ?_
  rintro e w1 ⟨rfl,h1⟩
  go_wp2
  go_ret
  exact⟨by simp <;> omega,h1⟩
def z9n(x:Itm):Bool:=x.list.any z40||x.pairs.any z4p||x.scores.any z8l
theorem zhg(x:Itm)(v:Value)(w:World)(B:Nat)(hs:x.Small)(hB:B≤w.heap.size)(h:z0q w B v x) :
  Calls prog 119 #[v] w fun e w'=>e=.returned (.bool (z9n x))∧Fr [] w w':=by
 obtain⟨A1,c1,A2,c2,A3,c3,rfl,h1,h2,h3⟩:=h
 have S:=hid (fun W (hf:Fr [] w W)=>zl1 x.list A1 c1 B W hs.list (Nat.le_trans hB hf.size) (h1.fr hf hB (by simp)))
 have P:=hid (fun W (hf:Fr [] w W)=>zsh x.pairs A2 c2 B W hs.pairs (Nat.le_trans hB hf.size) (h2.fr hf hB (by simp)))
 have C:=hid (fun W (hf:Fr [] w W)=>ztc x.scores A3 c3 B W hs.scores (Nat.le_trans hB hf.size) (h3.fr hf hB (by simp)))
 have hE:z9n x=(x.list.any z40||x.pairs.any z4p||x.scores.any z8l):=rfl
 clear h1 h2 h3 hs
 generalize z9n x=r at *
 generalize x.list.any z40=b1 at *
 generalize x.pairs.any z4p=b2 at *
 generalize x.scores.any z8l=b3 at *
 generalize x.list.length=n1 at *
 generalize x.pairs.length=n2 at *
 generalize x.scores.length=n3 at *
 generalize x.kind=k at *
 generalize x.text=t at *
 subst hE
 have hz:Fr [] w (w.alloc (.cells #[.int .i64 k,.string t,.slice A1 n1 c1,.slice A2 n2 c2,.slice A3 n3 c3] 43)):=(Fr.refl [] w).alloc _
 cases b1
 ·cases b2
  ·go_enter Tryz.func119,Tryz.ntmps119
   go_wp2_with fail
   refine(S.out _ hz).mono ?_
   rintro e w1 ⟨rfl,f1⟩
   have W0:Whole (w.alloc (.cells #[.int .i64 k,.string t,.slice A1 n1 c1,.slice A2 n2 c2,.slice A3 n3 c3] 43)) w.heap.size 43 [.int .i64 k,.string t,.slice A1 n1 c1,.slice A2 n2 c2,.slice A3 n3 c3]:=Whole.new w _ _
   have W1:=W0.fr f1 (by simp)
   have d3:w1.cell? ⟨w.heap.size,3,none⟩=some (.slice A2 n2 c2):=W1.cell 3
   have d4:w1.cell? ⟨w.heap.size,4,none⟩=some (.slice A3 n3 c3):=W1.cell 4
   have HW:=hid W1
   clear W0 W1
   go_wp2_with fail
   refine(P.out _ (hz.trans f1)).mono ?_
   rintro e w2 ⟨rfl,f2⟩
   have e4:w2.cell? ⟨w.heap.size,4,none⟩=some (.slice A3 n3 c3):=(HW.out.fr f2 (by simp)).cell 4
   go_wp2_with fail
   refine(C.out _ ((hz.trans f1).trans f2)).mono ?_
   rintro e w3 ⟨rfl,f3⟩
   go_wp2
   go_ret
   exact⟨by simp,((hz.trans f1).trans f2).trans f3⟩
  ·go_enter Tryz.func119,Tryz.ntmps119
   go_wp2_with fail
   refine(S.out _ hz).mono ?_
   rintro e w1 ⟨rfl,f1⟩
   have W0:Whole (w.alloc (.cells #[.int .i64 k,.string t,.slice A1 n1 c1,.slice A2 n2 c2,.slice A3 n3 c3] 43)) w.heap.size 43 [.int .i64 k,.string t,.slice A1 n1 c1,.slice A2 n2 c2,.slice A3 n3 c3]:=Whole.new w _ _
   have W1:=W0.fr f1 (by simp)
   have d3:w1.cell? ⟨w.heap.size,3,none⟩=some (.slice A2 n2 c2):=W1.cell 3
   have d4:w1.cell? ⟨w.heap.size,4,none⟩=some (.slice A3 n3 c3):=W1.cell 4
   have HW:=hid W1
   clear W0 W1
   go_wp2_with fail
   refine(P.out _ (hz.trans f1)).mono ?_
   rintro e w2 ⟨rfl,f2⟩
   go_wp2
   go_ret
   exact⟨rfl,(hz.trans f1).trans f2⟩
 ·go_enter Tryz.func119,Tryz.ntmps119
  go_wp2_with fail
  refine(S.out _ hz).mono ?_
  rintro e w1 ⟨rfl,f1⟩
  go_wp2
  go_ret
  exact⟨rfl,hz.trans f1⟩
def rises{α:Type}(lt:α→α→Bool):List α→Bool
 | []=>true
 | [_]=>true
 | a :: b :: r=>lt a b&&rises lt (b :: r)
theorem zac{α:Type}{lt:α→α→Bool}{l:List α}{m:Nat}{a b:α}(ha:l[m]? = some a)(hb:l[m+1]? = some b):rises lt (l.drop m)=(lt a b&&rises lt (l.drop (m+1))):=by
 obtain⟨h1,e1⟩:=List.getElem?_eq_some_iff.1 ha
 obtain⟨h2,e2⟩:=List.getElem?_eq_some_iff.1 hb
 have d2:l.drop (m+1)=b :: l.drop (m+2):=by rw[List.drop_eq_getElem_cons h2,e2]
 rw[List.drop_eq_getElem_cons h1,e1,d2]
 rfl
theorem zcf{α:Type}{lt:α→α→Bool}{l:List α}{m:Nat}(h:l.length≤m+1):rises lt (l.drop m)=true:=by
 have:(l.drop m).length≤1:=by simp;omega
 match l.drop m,this with
 | [],_=>rfl
 | [_],_=>rfl
def ltS(a b:ByteArray):Bool:=decide (z4m a b < 0)
theorem zid(l:List ByteArray)(A:Option Addr)(c B:Nat)(w:World)(hl:l.length≤281474976710656)(hB:B≤w.heap.size)(hsl:Sl w B 1 (.slice A l.length c) l.length (z03 l)) :
  Calls prog 120 #[.slice A l.length c,.func (Fn.func 121) #[] #[]] w fun e w'=>e=.returned (.bool (rises ltS l))∧Fr [] w w':=by
 have HS:=hid hsl
 clear hsl
 go_enter Tryz.func120,Tryz.ntmps120
 go_wp2
 go_loopg [5] l.length (fun g i wr=>∃(m:Nat),g=l.length - m∧i=.int .i64 ((m:Int)+1)∧m≤l.length∧rises ltS (l.drop m)=rises ltS l∧Fr [] w wr)
 case atStart=>exact⟨0,rfl,rfl,Nat.zero_le _,rfl,Fr.refl _ _⟩
 case round=>
  obtain⟨m,rfl,rfl,hm,hR,hf⟩:=hrel
  by_cases hlt:m+1 < l.length
  ·obtain⟨b,off,rfl,hb,hc,hmx,hcell⟩:=HS.out.at_ (by omega)
   obtain⟨s,hs⟩:∃s,l[m]? = some s:=⟨_,List.getElem?_eq_getElem (by omega)⟩
   obtain⟨t,ht⟩:∃t,l[m+1]? = some t:=⟨_,List.getElem?_eq_getElem hlt⟩
   have hc1:wr.cell? ⟨b,off+m,none⟩=some (.string s):=hf.cell (hcell m _ (z15 l m s hs)) (by simp)
   have hc2:wr.cell? ⟨b,off+(m+1),none⟩=some (.string t):=hf.cell (hcell (m+1) _ (z15 l (m+1) t ht)) (by simp)
   rw[zac hs ht] at hR
   have hC:∀W,Calls prog 121 #[.string s,.string t] W fun e w'=>e=.returned (.int .i64 (z4m s t))∧∃n,w'=W.drewN n:=fun W=>(z71 s t W).mono (fun e w' h=>⟨h.1,0,h.2⟩)
   have HC:=hid hC
   clear hcell hs ht hC
   have wr1:IntKind.i64.wrap ((m:Int)+1)=(m:Int)+1:=IntWalk.i64_in _ (by omega)
   have wr2:IntKind.i64.wrap (m:Int)=(m:Int):=IntWalk.i64_in _ (by omega)
   by_cases hq:z4m s t < 0
   ·rw[show ltS s t=true from decide_eq_true hq,Bool.true_and] at hR
    have HR:=hid hR
    clear hR
    go_wp2
    go_quiet ((go_at_call 121;exact Calls.quiet_of (HC.out _)))
    go_wp2
    go_roundg (l.length - (m+1))
    case measure=>omega
    case rel=>exact⟨m+1,rfl,rfl,by omega,HR.out,hf.drewN _⟩
   ·rw[show ltS s t=false from decide_eq_false hq,Bool.false_and] at hR
    have HR:=hid hR
    clear hR
    go_wp2
    go_quiet ((go_at_call 121;exact Calls.quiet_of (HC.out _)))
    go_wp2
    go_ret
    rw[←HR.out]
    exact⟨rfl,hf.drewN _⟩
  ·rw[zcf (by omega)] at hR
   have HR:=hid hR
   clear hR
   go_wp2
   go_ret
   rw[←HR.out]
   exact⟨rfl,hf⟩
def ltP(a b:ByteArray×ByteArray):Bool:=decide (z4m a.1 b.1 < 0)
def z8h(a b:Int×ByteArray):Int:=if a.1=b.1 then z4m a.2 b.2 else a.1 - b.1
def ltC(a b:Int×ByteArray):Bool:=decide (z8h a b < 0)
theorem za9(a b:ByteArray×ByteArray)(w:World):Calls prog 123 #[.agg #[.string a.1,.string a.2],.agg #[.string b.1,.string b.2]] w fun e w'=>e=.returned (.int .i64 (z4m a.1 b.1))∧Fr [] w w':=by
 go_enter Tryz.func123,Tryz.ntmps123
 go_wp2_with fail
 refine(z71 _ _ _).mono ?_
 rintro e w1 ⟨rfl,rfl⟩
 go_wp2
 go_ret
 exact⟨rfl,((Fr.refl [] w).alloc _).alloc _⟩
theorem zaj(a b:Int×ByteArray)(w:World)(ha:z0m a.1=true)(hb:z0m b.1=true):Calls prog 162 #[.agg #[.int .i64 a.1,.string a.2],.agg #[.int .i64 b.1,.string b.2]] w fun e w'=>e=.returned (.int .i64 (z8h a b))∧Fr [] w w':=by
 simp only[z0m,Bool.and_eq_true,decide_eq_true_eq] at ha hb
 by_cases h:a.1=b.1
 ·have E:=hid (show z8h a b=z4m a.2 b.2 by unfold z8h;rw[if_pos h])
  have hne:(a.1 != b.1)=false:=by simpa using h
  clear h
  go_enter Tryz.func162,Tryz.ntmps162
  go_wp2_with fail
  refine(z71 _ _ _).mono ?_
  rintro e w1 ⟨rfl,rfl⟩
  go_wp2
  go_ret
  rw[E.out]
  exact⟨rfl,((Fr.refl [] w).alloc _).alloc _⟩
 ·have E:=hid (show z8h a b=a.1 - b.1 by unfold z8h;rw[if_neg h])
  have hne:(a.1 != b.1)=true:=by simpa using h
  have hw:IntKind.i64.wrap (a.1 - b.1)=a.1 - b.1:=IntWalk.i64_in _ (by omega)
  clear h
  go_enter Tryz.func162,Tryz.ntmps162
  go_wp2
  go_ret
  rw[E.out]
  exact⟨rfl,((Fr.refl [] w).alloc _).alloc _⟩
end Go.Proofs.YtamgdmiopinidaaGreatDoor
