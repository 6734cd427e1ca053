/- Contracts; no condition but each theorem's own. -/
import Derived.Test.YtnmoajaelmimnaaGreatDoorSlY0
import Derived.Deep.DeepCutAuto
import Derived.Deep.LoopGhost
import Derived.IntWalk
import Derived.Laws.AppendOwn
set_option linter.unusedVariables false
set_option linter.unusedSimpArgs false
set_option maxHeartbeats 8000000
set_option maxRecDepth 100000
namespace Go.Proofs.YtnmoajaelmimnaaGreatDoor
open Go.Proofs.Tryz
section
open Go.RowKit
attribute [local go_sem] z1g
theorem q28(n a b:Int)(w):Calls prog 32 #[.int .i64 n,.int .i64 a,.int .i64 b] w fun e w'=>e=.returned (.bool (decide (a≤n)&&decide (n≤b)))∧w'=w:=by
 by_cases h:a≤n
 ·go_enter func32,ntmps32;go_wp2;go_ret;simp[h]
 ·go_enter func32,ntmps32;go_wp2;go_ret;simp[h]
  try omega
theorem zce(n a b:Int)(w):Calls prog 143 #[.int .i64 n,.int .i64 a,.int .i64 b] w fun e w'=>e=.returned (.bool (decide (a≤n)&&decide (n≤b)))∧w'=w:=by
 by_cases h:a≤n
 ·go_enter func143,ntmps143;go_wp2;go_ret;simp[h]
 ·go_enter func143,ntmps143;go_wp2;go_ret;simp[h]
  try omega
theorem z7p(n:Int)(w):Calls prog 116 #[.int .i64 n] w fun e w'=>e=.returned (.bool (z0o n))∧w'=w:=by
 go_enter func116,ntmps116;go_wp2_with fail;refine(zce _ _ _ _).mono ?_;rintro e a ⟨rfl,rfl⟩;go_wp2;go_ret;exact⟨rfl,rfl⟩
theorem z3m(s)(w):Calls prog 95 #[.string s] w fun e w'=>e=.returned (.bool (decide (60 < s.size)))∧w'=w:=by
 have hi:(60 < (s.size:Int))↔60 < s.size:=by omega
 go_enter func95,ntmps95;go_wp2;go_ret;simp[hi]
theorem zh8(a b)(w):Calls prog 186 #[.string a,.string b] w fun e w'=>e=.returned (.int .i64 (z4i a b))∧w'=w:=by
 go_enter func186,ntmps186;go_wp2;rw[run_callFunc_extern func249 (by kernel_rfl) (by kernel_rfl) (by kernel_rfl) (e:=Extern.BytealgCompare.compare) (by kernel_rfl),Lib.run_compareString];simp only[Result.andThen];rw[Oper.upon_value];go_wp2;go_ret;exact⟨rfl,rfl⟩
theorem z5w(a b)(w):Calls prog 148 #[.string a,.string b] w fun e w'=>e=.returned (.int .i64 (z4i a b))∧w'=w:=by
 go_enter func148,ntmps148;go_wp2_with fail;refine(zh8 _ _ _).mono ?_;rintro e d ⟨rfl,rfl⟩;go_wp2;go_ret;exact⟨rfl,rfl⟩
theorem q10(a b:YY)(w:World)(ha:a.size≤281474976710656)(hb:b.size≤281474976710656):
  Calls prog 84 #[.string a,.string b] w fun e w'=>e=.returned (.int .i64 (z4i a b))∧∃n,w'=w.drewN n:=by
 go_enter func84,ntmps84;go_wp2;go_loopg [5] a.size (fun g i wr=>∃(k n:Nat),g=a.size - k∧k≤a.size∧k≤b.size∧i=.int .i64 k∧zn9 a b k=z4i a b∧wr=w.drewN n)
 case atStart=>exact⟨0,0,rfl,Xt _,Xt _,rfl,zrl a b,rfl⟩
 case round=>
  obtain⟨k,n,rfl,p,m,rfl,d,rfl⟩:=hrel;by_cases h:k < a.size∧k < b.size
  ·obtain⟨s,r⟩:=h;rw[zrk a b k s r] at d;by_cases c1:z04 a k < z04 b k
   ·rw[Xf c1] at d;have j:=hid d;clear d;go_wp2;go_quiet (fail);go_wp2;go_ret;rw[←j.o];exact⟨rfl,_,World.drewN_drewN _ _ _⟩
   ·rw[Xc c1] at d;by_cases c2:z04 b k < z04 a k
    ·rw[Xf c2] at d;have j:=hid d;clear d;go_wp2;go_quiet (fail);go_wp2;go_quiet (fail);go_wp2;go_ret;rw[←j.o];exact⟨rfl,_,(World.drewN_drewN _ _ _).trans (by rw[World.drewN_drewN])⟩
    ·rw[Xc c2] at d;have j:=hid d;clear d;go_wp2;go_quiet (fail);go_wp2;go_quiet (fail);go_wp2;go_roundg (a.size - (k+1))
     case measure=>omega
     case rel=>exact⟨k+1,_,rfl,by omega,by omega,rfl,j.o,rfl⟩
  ·rw[zw2 a b k p m h] at d;have f:a.size < b.size∨b.size < a.size∨a.size=b.size:=by omega
   have l:¬k < a.size∨(k < a.size∧¬k < b.size):=by omega
   rcases f with f|f|f
   ·rw[Xf f] at d;have j:=hid d;clear d h;rcases l with l|⟨l,hk2⟩
    ·go_wp2;go_ret;rw[←j.o];exact⟨rfl,_,rfl⟩
    ·omega
   ·rw[Xc (by omega),Xf f] at d;have j:=hid d;clear d h;rcases l with l|⟨l,hk2⟩
    ·omega
    ·go_wp2;go_ret;rw[←j.o];exact⟨rfl,_,rfl⟩
   ·rw[Xc (by omega),Xc (by omega)] at d;have j:=hid d;clear d h;rcases l with l|⟨l,hk2⟩
    ·go_wp2;go_ret;rw[←j.o];exact⟨rfl,_,rfl⟩
    ·omega
theorem zhr(x:Itm)(v)(w)(B:Nat)(hs:x.Small)(h:z0p w B v x):
  Calls prog 145 #[v] w fun e w'=>e=.returned (.int .i64 (many x))∧Fr [] w w':=by
 obtain⟨f,c1,n,c2,g,s,rfl,d,b,h3⟩:=h;have u:=hs.list;have l:=hs.pairs;have j:=hs.scores;have a:((many x:Nat):Int)=(x.list.length:Int)+x.pairs.length+x.scores.length:=by unfold many;omega
 clear d b h3;generalize x.list.length=p at *;generalize x.pairs.length=r at *;generalize x.scores.length=y at *;generalize many x=m at *;generalize x.kind=k at *;generalize x.text=t at *;go_enter func145,ntmps145;go_wp2;go_ret;rw[a];refine⟨rfl,?_⟩;exact(Fr.refl [] w).alloc _
theorem q60(t:YY):(t.toList==ByteArray.toList ⟨#[]⟩)=decide (t.size=0):=by
 rw[eqB];by_cases h:t.size=0
 ·have:t=⟨#[]⟩:=by
   cases t with
   | mk d=>
    congr 1;exact Ja h
  subst this;exact(Xi rfl).trans (Xi rfl).symm
 ·have:t≠⟨#[]⟩:=fun e=>h (by rw[e];rfl);simp[h,this]
theorem zob(x:Itm)(v)(w)(B:Nat)(hs:x.Small)(h:z0p w B v x):
  Calls prog 144 #[v] w fun e w'=>e=.returned (.bool (z6q x))∧Fr [] w w':=by
 obtain⟨u,c1,F,c2,D,A,rfl,p,n,h3⟩:=h;have C:=hs.list;have y:=hs.pairs;have E:=hs.scores;have d:=q60 x.text;rw[show ByteArray.toList ⟨#[]⟩=[] from by decide +kernel] at d;have z:((x.list.length:Int)==0)=(x.list.length==0):=by rw[Va];simp
 have G:((x.pairs.length:Int)==0)=(x.pairs.length==0):=by rw[Va];simp
 have H:((x.scores.length:Int)==0)=(x.scores.length==0):=by rw[Va];simp
 have a:z6q x=((x.kind==1||x.text.size==0)&&(x.kind==2||x.kind==3||x.list.length==0)&&(x.kind==4||x.pairs.length==0)&&(x.kind==5||x.scores.length==0)):=rfl
 clear p n h3 hs;generalize (x.list.length==0)=bL at *;generalize (x.pairs.length==0)=bP at *;generalize (x.scores.length==0)=bS at *;rw[show(x.text.size==0)=decide (x.text.size=0) from rfl] at a;generalize decide (x.text.size=0)=bT at *;generalize x.list.length=I at *;generalize x.pairs.length=J at *;generalize x.scores.length=s at *;generalize z6q x=r at *;generalize x.kind=k at *;generalize x.text=t at *;by_cases k1:k=1
 ·subst k1;cases bL
  ·have b:=hid a;clear a;go_enter func144,ntmps144;go_wp2;go_ret;rw[b.o];exact⟨by simp[d],(Fr.refl [] w).alloc _⟩
  ·cases bP
   ·have b:=hid a;clear a;go_enter func144,ntmps144;go_wp2;go_ret;rw[b.o];exact⟨by simp[d],(Fr.refl [] w).alloc _⟩
   ·cases bS
    all_goals
     have b:=hid a;clear a;go_enter func144,ntmps144;go_wp2;go_ret;rw[b.o];exact⟨by simp[d],(Fr.refl [] w).alloc _⟩
 by_cases k2:k=2
 ·subst k2;cases bT
  ·have b:=hid a;clear a;go_enter func144,ntmps144;go_wp2;go_ret;rw[b.o];exact⟨by simp[d],(Fr.refl [] w).alloc _⟩
  ·cases bP
   ·have b:=hid a;clear a;go_enter func144,ntmps144;go_wp2;go_ret;rw[b.o];exact⟨by simp[d],(Fr.refl [] w).alloc _⟩
   ·cases bS
    all_goals
     have b:=hid a;clear a;go_enter func144,ntmps144;go_wp2;go_ret;rw[b.o];exact⟨by simp[d],(Fr.refl [] w).alloc _⟩
 by_cases k3:k=3
 ·subst k3;cases bT
  ·have b:=hid a;clear a;go_enter func144,ntmps144;go_wp2;go_ret;rw[b.o];exact⟨by simp[d],(Fr.refl [] w).alloc _⟩
  ·cases bP
   ·have b:=hid a;clear a;go_enter func144,ntmps144;go_wp2;go_ret;rw[b.o];exact⟨by simp[d],(Fr.refl [] w).alloc _⟩
   ·cases bS
    all_goals
     have b:=hid a;clear a;go_enter func144,ntmps144;go_wp2;go_ret;rw[b.o];exact⟨by simp[d],(Fr.refl [] w).alloc _⟩
 by_cases k4:k=4
 ·subst k4;cases bT
  ·have b:=hid a;clear a;go_enter func144,ntmps144;go_wp2;go_ret;rw[b.o];exact⟨by simp[d],(Fr.refl [] w).alloc _⟩
  ·cases bL
   ·have b:=hid a;clear a;go_enter func144,ntmps144;go_wp2;go_ret;rw[b.o];exact⟨by simp[d],(Fr.refl [] w).alloc _⟩
   ·cases bS
    all_goals
     have b:=hid a;clear a;go_enter func144,ntmps144;go_wp2;go_ret;rw[b.o];exact⟨by simp[d],(Fr.refl [] w).alloc _⟩
 by_cases k5:k=5
 ·subst k5;cases bT
  ·have b:=hid a;clear a;go_enter func144,ntmps144;go_wp2;go_ret;rw[b.o];exact⟨by simp[d],(Fr.refl [] w).alloc _⟩
  ·cases bL
   ·have b:=hid a;clear a;go_enter func144,ntmps144;go_wp2;go_ret;rw[b.o];exact⟨by simp[d],(Fr.refl [] w).alloc _⟩
   ·cases bP
    all_goals
     have b:=hid a;clear a;go_enter func144,ntmps144;go_wp2;go_ret;rw[b.o];exact⟨by simp[d],(Fr.refl [] w).alloc _⟩
 have f:(k==1)=false:=by simpa using k1
 have m:(k==2)=false:=by simpa using k2
 have g:(k==3)=false:=by simpa using k3
 have l:(k==4)=false:=by simpa using k4
 have j:(k==5)=false:=by simpa using k5
 cases bT
 ·have b:=hid a;clear a;go_enter func144,ntmps144;go_wp2;go_ret;rw[b.o];exact⟨by simp[d,f,m,g,l,j],(Fr.refl [] w).alloc _⟩
 ·cases bL
  ·have b:=hid a;clear a;go_enter func144,ntmps144;go_wp2;go_ret;rw[b.o];exact⟨by simp[d,f,m,g,l,j],(Fr.refl [] w).alloc _⟩
  ·cases bP
   ·have b:=hid a;clear a;go_enter func144,ntmps144;go_wp2;go_ret;rw[b.o];exact⟨by simp[d,f,m,g,l,j],(Fr.refl [] w).alloc _⟩
   ·cases bS
    all_goals
     have b:=hid a;clear a;go_enter func144,ntmps144;go_wp2;go_ret;rw[b.o];exact⟨by simp[d,f,m,g,l,j],(Fr.refl [] w).alloc _⟩
theorem zv6(a b)(w):Calls prog 183 #[.agg #[.string a,.string b]] w fun e w'=>e=.returned (.bool (decide (60 < a.size)||decide (60 < b.size)))∧Fr [] w w':=by
 have f:=hid (fun W=>z3m a W);have g:=hid (fun W=>z3m b W);by_cases h:60 < a.size;have d:=hid trivial
 all_goals
  first
  | (guard_hyp d
     rw[Xi h] at f ⊢)
  | (rw[Xl h] at f ⊢)
  go_enter func183,ntmps183;go_wp2_with fail;refine(f.o _).mono ?_;rintro e j ⟨rfl,rfl⟩
  first
  | (guard_hyp d
     skip)
  | (go_wp2_with fail
     refine(g.o _).mono ?_;rintro e j ⟨rfl,rfl⟩)
  go_wp2;go_ret;exact⟨rfl,(Fr.refl [] w).alloc _⟩
theorem zv7(a:Int)(b)(w):Calls prog 185 #[.agg #[.int .i64 a,.string b]] w fun e w'=>e=.returned (.bool (decide (60 < b.size)))∧Fr [] w w':=by
 go_enter func185,ntmps185;go_wp2_with fail;refine(z3m _ _).mono ?_;rintro e d ⟨rfl,rfl⟩;go_wp2;go_ret;exact⟨rfl,(Fr.refl [] w).alloc _⟩
def z3c{α:Type}(q:α→Bool)(l:List α):Int:=match l.findIdx? q with|some i=>i|none=>-1
theorem z3i{α:Type}{q:α→Bool}{l:List α}{k:Nat}{s:α}(h:∀(j:Nat) t,j < k→l[j]? = some t→q t=false)(hk:l[k]? = some s)(hq:q s=true):z3c q l=k:=by
 have:l.findIdx? q=some k:=by
  rw[Vd];obtain⟨a,b⟩:=Xe.1 hk;exact⟨a,by rw[b];exact hq,fun j d=>by rw[h j _ d (Xa (by omega))];decide⟩
 unfold z3c;rw[this]
theorem z43{α:Type}{q:α→Bool}{l:List α}(h:∀(j:Nat) t,l[j]? = some t→q t=false):z3c q l=-1:=by
 have:l.findIdx? q=none:=by
  rw[Vh];intro t b;obtain⟨j,a⟩:=Yd b;exact h j t a
 unfold z3c;rw[this]
def z5a(s:YY):Bool:=decide (60 < s.size)
theorem zmt(l:YX)(A)(c B:Nat)(w:World)(hl:l.length≤281474976710656)(hB:B≤w.heap.size)(hsl:Sl w B 1 (.slice A l.length c) l.length (z03 l)):
  Calls prog 161 #[.slice A l.length c,.func (Fn.func 95) #[] #[]] w fun e w'=>e=.returned (.int .i64 (z3c z5a l))∧Fr [] w w':=by
 have x:=hid hsl;clear hsl;go_enter func161,ntmps161;go_wp2;go_loopg [5,8] l.length (fun g u i wr=>∃(k:Nat),g=l.length - k∧k≤l.length∧i=.int .i64 k∧(∀j t,j < k→l[j]? = some t→z5a t=false)∧Fr [] w wr)
 case atStart=>exact⟨0,rfl,Xt _,rfl,fun j t p=>absurd p (Vg _),Fr.refl _ _⟩
 case round=>
  obtain⟨k,rfl,C,rfl,d,n⟩:=hrel;by_cases hlt:k < l.length
  ·obtain⟨b,off,rfl,D,F,z,a⟩:=x.o.at_ (by omega);obtain⟨s,hs⟩:∃s,l[k]? = some s:=⟨_,Xa hlt⟩;have y:wr.cell? ⟨b,off+k,none⟩=some (.string s):=n.cell (a k _ (z0x l k s hs)) (by simp);have L:=hid (fun W=>z3m s W);by_cases hq:z5a s=true
   ·have E:=hid (z3i d hs hq);rw[show decide (60 < s.size)=true from hq] at L;clear d a hs hq;go_wp2_with fail;refine(L.o _).mono ?_;rintro e r ⟨rfl,rfl⟩;go_wp2;go_ret;rw[E.o];exact⟨rfl,n⟩
   ·have f:z5a s=false:=by simpa using hq
    rw[show decide (60 < s.size)=false from f] at L
    have N:=hid (fun j t (p:j < k+1) (m:l[j]? = some t)=>(show z5a t=false by
     rcases Yc j k with h|h
     ·exact d j t h m
     ·have e:j=k:=by omega
      subst e;rw[hs] at m;cases m;exact f))
    clear d a hs hq f;go_wp2_with fail;refine(L.o _).mono ?_;rintro e r ⟨rfl,rfl⟩;go_wp2;go_roundg (l.length - (k+1))
    case measure=>omega
    case rel=>exact⟨k+1,rfl,by omega,rfl,N.o,n⟩
  ·have E:=hid (z43 (q:=z5a) (l:=l) (fun j t m=>d j t (by have:=(Xe.1 m).1;omega) m));clear d;go_wp2;go_ret;rw[E.o];exact⟨rfl,n⟩
def z5e(s:YY×YY):Bool:=decide (60 < s.1.size)||decide (60 < s.2.size)
theorem zk6(l:List (YY×YY))(A)(c B:Nat)(w:World)(hl:l.length≤281474976710656)(hB:B≤w.heap.size)(hsl:Sl w B 2 (.slice A l.length c) l.length (z0e l)):
  Calls prog 247 #[.slice A l.length c,.func (Fn.func 183) #[] #[]] w fun e w'=>e=.returned (.int .i64 (z3c z5e l))∧Fr [] w w':=by
 have C:=hid hsl;clear hsl;go_enter func247,ntmps247;go_wp2;go_loopg [5,8] l.length (fun g u i wr=>∃(k:Nat),g=l.length - k∧k≤l.length∧i=.int .i64 k∧(∀j t,j < k→l[j]? = some t→z5e t=false)∧Fr [] w wr)
 case atStart=>exact⟨0,rfl,Xt _,rfl,fun j t y=>absurd y (Vg _),Fr.refl _ _⟩
 case round=>
  obtain⟨k,rfl,F,rfl,d,n⟩:=hrel;by_cases hlt:k < l.length
  ·obtain⟨b,off,rfl,G,H,D,a⟩:=C.o.at_ (by omega);obtain⟨s,hs⟩:∃s,l[k]? = some s:=⟨_,Xa hlt⟩;have x:wr.cell? ⟨b,off+2 * k,none⟩=some (.string s.1):=n.cell (a _ _ (z0f l k s hs).1) (by simp);have p:wr.cell? ⟨b,off+2 * k+1,none⟩=some (.string s.2):=n.cell (a _ _ (z0f l k s hs).2) (by simp);rw[Ya 2 k] at x p;have L:=hid (fun W=>zv6 s.1 s.2 W);by_cases hq:z5e s=true
   ·have E:=hid (z3i d hs hq);rw[show(decide (60 < s.1.size)||decide (60 < s.2.size))=true from hq] at L
    clear d a hs hq;go_wp2_with fail;refine(L.o _).mono ?_;rintro e z ⟨rfl,r⟩;go_wp2;go_ret;rw[E.o];exact⟨rfl,n.trans r⟩
   ·have f:z5e s=false:=by simpa using hq
    rw[show(decide (60 < s.1.size)||decide (60 < s.2.size))=false from f] at L
    have N:=hid (fun j t (y:j < k+1) (m:l[j]? = some t)=>(show z5e t=false by
     rcases Yc j k with h|h
     ·exact d j t h m
     ·have e:j=k:=by omega
      subst e;rw[hs] at m;cases m;exact f))
    clear d a hs hq f;go_wp2_with fail;refine(L.o _).mono ?_;rintro e z ⟨rfl,r⟩;go_wp2;go_roundg (l.length - (k+1))
    case measure=>omega
    case rel=>exact⟨k+1,rfl,by omega,rfl,N.o,n.trans r⟩
  ·have E:=hid (z43 (q:=z5e) (l:=l) (fun j t m=>d j t (by have:=(Xe.1 m).1;omega) m));clear d;go_wp2;go_ret;rw[E.o];exact⟨rfl,n⟩
def za4(s:Int×YY):Bool:=decide (60 < s.2.size)
theorem zk5(l:List (Int×YY))(A)(c B:Nat)(w:World)(hl:l.length≤281474976710656)(hB:B≤w.heap.size)(hsl:Sl w B 2 (.slice A l.length c) l.length (z06 l)):
  Calls prog 248 #[.slice A l.length c,.func (Fn.func 185) #[] #[]] w fun e w'=>e=.returned (.int .i64 (z3c za4 l))∧Fr [] w w':=by
 have C:=hid hsl;clear hsl;go_enter func248,ntmps248;go_wp2;go_loopg [5,8] l.length (fun g u i wr=>∃(k:Nat),g=l.length - k∧k≤l.length∧i=.int .i64 k∧(∀j t,j < k→l[j]? = some t→za4 t=false)∧Fr [] w wr)
 case atStart=>exact⟨0,rfl,Xt _,rfl,fun j t y=>absurd y (Vg _),Fr.refl _ _⟩
 case round=>
  obtain⟨k,rfl,F,rfl,d,n⟩:=hrel;by_cases hlt:k < l.length
  ·obtain⟨b,off,rfl,G,H,D,a⟩:=C.o.at_ (by omega);obtain⟨s,hs⟩:∃s,l[k]? = some s:=⟨_,Xa hlt⟩;have x:wr.cell? ⟨b,off+2 * k,none⟩=some (.int .i64 s.1):=n.cell (a _ _ (z0b l k s hs).1) (by simp);have p:wr.cell? ⟨b,off+2 * k+1,none⟩=some (.string s.2):=n.cell (a _ _ (z0b l k s hs).2) (by simp);rw[Ya 2 k] at x p;have L:=hid (fun W=>zv7 s.1 s.2 W);by_cases hq:za4 s=true
   ·have E:=hid (z3i d hs hq);rw[show(decide (60 < s.2.size))=true from hq] at L;clear d a hs hq;go_wp2_with fail;refine(L.o _).mono ?_;rintro e z ⟨rfl,r⟩;go_wp2;go_ret;rw[E.o];exact⟨rfl,n.trans r⟩
   ·have f:za4 s=false:=by simpa using hq
    rw[show(decide (60 < s.2.size))=false from f] at L
    have N:=hid (fun j t (y:j < k+1) (m:l[j]? = some t)=>(show za4 t=false by
     rcases Yc j k with h|h
     ·exact d j t h m
     ·have e:j=k:=by omega
      subst e;rw[hs] at m;cases m;exact f))
    clear d a hs hq f;go_wp2_with fail;refine(L.o _).mono ?_;rintro e z ⟨rfl,r⟩;go_wp2;go_roundg (l.length - (k+1))
    case measure=>omega
    case rel=>exact⟨k+1,rfl,by omega,rfl,N.o,n.trans r⟩
  ·have E:=hid (z43 (q:=za4) (l:=l) (fun j t m=>d j t (by have:=(Xe.1 m).1;omega) m));clear d;go_wp2;go_ret;rw[E.o];exact⟨rfl,n⟩
theorem z61{α:Type}(q:α→Bool)(l:List α):0≤z3c q l↔l.any q=true:=by
 cases h:l.any q with
 | false=>
  have:z3c q l=-1:=z43 (fun j t a=>by
   have:=Ue.1 h t (Xj a);simpa using this)
  rw[this];simp
 | true=>
  obtain⟨t,a,b⟩:=Vs.1 h;unfold z3c;cases hf:l.findIdx? q with
  | none=>
   rw[Vh] at hf;have:=hf t a;rw[b] at this;cases this
  | some i=>simp
theorem zol(l:List (YY))(A)(c B:Nat)(w:World)(hl:l.length≤281474976710656)(hB:B≤w.heap.size)(hsl:Sl w B 1 (.slice A l.length c) l.length (z03 l)):
  Calls prog 112 #[.slice A l.length c,.func (Fn.func 95) #[] #[]] w fun e w'=>e=.returned (.bool (l.any z5a))∧Fr [] w w':=by
 have I:=hid (zmt l A c B w hl hB hsl);have h:=z61 z5a l;clear hsl;generalize z3c z5a l=r at *;generalize l.any z5a=b at *;generalize l.length=n at *;cases b;have a:=hid trivial
 all_goals
  first
  | (guard_hyp a
     have hr:r < 0:=by simpa using h)
  | (have hr:0≤r:=by simpa using h)
  clear h;go_enter func112,ntmps112;go_wp2_with fail;refine I.o.mono ?_;rintro e f ⟨rfl,d⟩;go_wp2;go_ret;exact⟨by simp <;> omega,d⟩
theorem zyg(l:List (YY×YY))(A)(c B:Nat)(w:World)(hl:l.length≤281474976710656)(hB:B≤w.heap.size)(hsl:Sl w B 2 (.slice A l.length c) l.length (z0e l)):
  Calls prog 182 #[.slice A l.length c,.func (Fn.func 183) #[] #[]] w fun e w'=>e=.returned (.bool (l.any z5e))∧Fr [] w w':=by
 have I:=hid (zk6 l A c B w hl hB hsl);have h:=z61 z5e l;clear hsl;generalize z3c z5e l=r at *;generalize l.any z5e=b at *;generalize l.length=n at *;cases b;have a:=hid trivial
 all_goals
  first
  | (guard_hyp a
     have hr:r < 0:=by simpa using h)
  | (have hr:0≤r:=by simpa using h)
  clear h;go_enter func182,ntmps182;go_wp2_with fail;refine I.o.mono ?_;rintro e f ⟨rfl,d⟩;go_wp2;go_ret;exact⟨by simp <;> omega,d⟩
theorem zye(l:List (Int×YY))(A)(c B:Nat)(w:World)(hl:l.length≤281474976710656)(hB:B≤w.heap.size)(hsl:Sl w B 2 (.slice A l.length c) l.length (z06 l)):
  Calls prog 184 #[.slice A l.length c,.func (Fn.func 185) #[] #[]] w fun e w'=>e=.returned (.bool (l.any za4))∧Fr [] w w':=by
 have I:=hid (zk5 l A c B w hl hB hsl);have h:=z61 za4 l;clear hsl;generalize z3c za4 l=r at *;generalize l.any za4=b at *;generalize l.length=n at *;cases b;have a:=hid trivial
 all_goals
  first
  | (guard_hyp a
     have hr:r < 0:=by simpa using h)
  | (have hr:0≤r:=by simpa using h)
  clear h;go_enter func184,ntmps184;go_wp2_with fail;refine I.o.mono ?_;rintro e f ⟨rfl,d⟩;go_wp2;go_ret;exact⟨by simp <;> omega,d⟩
def zax(x:Itm):Bool:=x.list.any z5a||x.pairs.any z5e||x.scores.any za4
theorem zk9(x:Itm)(v)(w:World)(B:Nat)(hs:x.Small)(hB:B≤w.heap.size)(h:z0p w B v x):
  Calls prog 146 #[v] w fun e w'=>e=.returned (.bool (zax x))∧Fr [] w w':=by
 obtain⟨l,c1,j,c2,f,d,rfl,D,A,h3⟩:=h;have S:=hid (fun W (hf:Fr [] w W)=>zol x.list l c1 B W hs.list (Xd hB hf.size) (D.fr hf hB (by simp)));have P:=hid (fun W (hf:Fr [] w W)=>zyg x.pairs j c2 B W hs.pairs (Xd hB hf.size) (A.fr hf hB (by simp)));have C:=hid (fun W (hf:Fr [] w W)=>zye x.scores f d B W hs.scores (Xd hB hf.size) (h3.fr hf hB (by simp)));have F:zax x=(x.list.any z5a||x.pairs.any z5e||x.scores.any za4):=rfl
 clear D A h3 hs;generalize zax x=r at *;generalize x.list.any z5a=E at *;generalize x.pairs.any z5e=G at *;generalize x.scores.any za4=M at *;generalize x.list.length=y at *;generalize x.pairs.length=p at *;generalize x.scores.length=g at *;generalize x.kind=k at *;generalize x.text=t at *;subst F;have b:Fr [] w (w.alloc (.cells #[.int .i64 k,.string t,.slice l y c1,.slice j p c2,.slice f g d] 68)):=(Fr.refl [] w).alloc _;cases E
 ·cases G;have u:=hid trivial
  all_goals
   go_enter func146,ntmps146;go_wp2_with fail;refine(S.o _ b).mono ?_;rintro e s ⟨rfl,a⟩;have z:Whole (w.alloc (.cells #[.int .i64 k,.string t,.slice l y c1,.slice j p c2,.slice f g d] 68)) w.heap.size 68 [.int .i64 k,.string t,.slice l y c1,.slice j p c2,.slice f g d]:=Whole.new w _ _;have m:=z.fr a (by simp);have K:s.cell? ⟨w.heap.size,3,none⟩=some (.slice j p c2):=m.cell 3;have N:s.cell? ⟨w.heap.size,4,none⟩=some (.slice f g d):=m.cell 4;have H:=hid m;clear z m;go_wp2_with fail;refine(P.o _ (b.trans a)).mono ?_;rintro e J ⟨rfl,n⟩
   first
   | (guard_hyp u
      have O:J.cell? ⟨w.heap.size,4,none⟩=some (.slice f g d):=(H.o.fr n (by simp)).cell 4;go_wp2_with fail;refine(C.o _ ((b.trans a).trans n)).mono ?_;rintro e L ⟨rfl,I⟩;go_wp2;go_ret;exact⟨by simp,((b.trans a).trans n).trans I⟩)
   | (go_wp2
      go_ret;exact⟨rfl,(b.trans a).trans n⟩)
 ·go_enter func146,ntmps146;go_wp2_with fail;refine(S.o _ b).mono ?_;rintro e s ⟨rfl,a⟩;go_wp2;go_ret;exact⟨rfl,b.trans a⟩
def rises{α:Type}(lt:α→α→Bool):List α→Bool
 | []=>true
 | [_]=>true
 | a :: b :: r=>lt a b&&rises lt (b :: r)
theorem zgs{α:Type}{lt:α→α→Bool}{l:List α}{m:Nat}{a b:α}(ha:l[m]? = some a)(hb:l[m+1]? = some b):rises lt (l.drop m)=(lt a b&&rises lt (l.drop (m+1))):=by
 obtain⟨g,e⟩:=Xe.1 ha;obtain⟨f,h⟩:=Xe.1 hb;have d:l.drop (m+1)=b :: l.drop (m+2):=by rw[Yu f,h]
 rw[Yu g,e,d];rfl
theorem zl6{α:Type}{lt:α→α→Bool}{l:List α}{m:Nat}(h:l.length≤m+1):rises lt (l.drop m)=true:=by
 have:(l.drop m).length≤1:=by simp;omega
 match l.drop m,this with
 | [],_=>rfl
 | [_],_=>rfl
def ltS(a b:YY):Bool:=decide (z4i a b < 0)
theorem zno(l:YX)(A)(c B:Nat)(w:World)(hl:l.length≤281474976710656)(hB:B≤w.heap.size)(hsl:Sl w B 1 (.slice A l.length c) l.length (z03 l)):
  Calls prog 147 #[.slice A l.length c,.func (Fn.func 148) #[] #[]] w fun e w'=>e=.returned (.bool (rises ltS l))∧Fr [] w w':=by
 have D:=hid hsl;clear hsl;go_enter func147,ntmps147;go_wp2;go_loopg [5] l.length (fun g i wr=>∃(m:Nat),g=l.length - m∧i=.int .i64 ((m:Int)+1)∧m≤l.length∧rises ltS (l.drop m)=rises ltS l∧Fr [] w wr)
 case atStart=>exact⟨0,rfl,rfl,Xt _,rfl,Fr.refl _ _⟩
 case round=>
  obtain⟨m,rfl,rfl,E,d,f⟩:=hrel;by_cases hlt:m+1 < l.length
  ·obtain⟨b,off,rfl,F,G,C,a⟩:=D.o.at_ (by omega);obtain⟨s,hs⟩:∃s,l[m]? = some s:=⟨_,Xa (by omega)⟩;obtain⟨t,k⟩:∃t,l[m+1]? = some t:=⟨_,Xa hlt⟩;have z:wr.cell? ⟨b,off+m,none⟩=some (.string s):=f.cell (a m _ (z0x l m s hs)) (by simp);have x:wr.cell? ⟨b,off+(m+1),none⟩=some (.string t):=f.cell (a (m+1) _ (z0x l (m+1) t k)) (by simp);rw[zgs hs k] at d;have p:∀W,Calls prog 148 #[.string s,.string t] W fun e w'=>e=.returned (.int .i64 (z4i s t))∧∃n,w'=W.drewN n:=fun W=>(z5w s t W).mono (fun e w' h=>⟨h.1,0,h.2⟩);have r:=hid p;clear a hs k p;have u:IntKind.i64.wrap ((m:Int)+1)=(m:Int)+1:=IntWalk.i64_in _ (by omega);have y:IntKind.i64.wrap (m:Int)=(m:Int):=IntWalk.i64_in _ (by omega);by_cases hq:z4i s t < 0
   ·rw[show ltS s t=true from Xi hq,Vk] at d;have j:=hid d;clear d;go_wp2;go_quiet ((go_at_call 148;exact Calls.quiet_of (r.o _)));go_wp2;go_roundg (l.length - (m+1))
    case measure=>omega
    case rel=>exact⟨m+1,rfl,rfl,by omega,j.o,f.drewN _⟩
   ·rw[show ltS s t=false from Xl hq,Uz] at d;have j:=hid d;clear d;go_wp2;go_quiet ((go_at_call 148;exact Calls.quiet_of (r.o _)));go_wp2;go_ret;rw[←j.o];exact⟨rfl,f.drewN _⟩
  ·rw[zl6 (by omega)] at d;have j:=hid d;clear d;go_wp2;go_ret;rw[←j.o];exact⟨rfl,f⟩
def ltP(a b:YY×YY):Bool:=decide (z4i a.1 b.1 < 0)
def za7(a b:Int×YY):Int:=if a.1=b.1 then z4i a.2 b.2 else a.1 - b.1
def ltC(a b:Int×YY):Bool:=decide (za7 a b < 0)
theorem zbw(a b:YY×YY)(w):Calls prog 150 #[.agg #[.string a.1,.string a.2],.agg #[.string b.1,.string b.2]] w fun e w'=>e=.returned (.int .i64 (z4i a.1 b.1))∧Fr [] w w':=by
 go_enter func150,ntmps150;go_wp2_with fail;refine(z5w _ _ _).mono ?_;rintro e d ⟨rfl,rfl⟩;go_wp2;go_ret;exact⟨rfl,((Fr.refl [] w).alloc _).alloc _⟩
theorem zca(a b:Int×YY)(w)(ha:z0o a.1=true)(hb:z0o b.1=true):Calls prog 188 #[.agg #[.int .i64 a.1,.string a.2],.agg #[.int .i64 b.1,.string b.2]] w fun e w'=>e=.returned (.int .i64 (za7 a b))∧Fr [] w w':=by
 simp only[z0o,Yf,decide_eq_true_eq] at ha hb;by_cases h:a.1=b.1
 ·have E:=hid (show za7 a b=z4i a.2 b.2 by unfold za7;rw[Xf h]);have d:(a.1 != b.1)=false:=by simpa using h
  clear h;go_enter func188,ntmps188;go_wp2_with fail;refine(z5w _ _ _).mono ?_;rintro e g ⟨rfl,rfl⟩;go_wp2;go_ret;rw[E.o];exact⟨rfl,((Fr.refl [] w).alloc _).alloc _⟩
 ·have E:=hid (show za7 a b=a.1 - b.1 by unfold za7;rw[Xc h]);have d:(a.1 != b.1)=true:=by simpa using h
  have f:IntKind.i64.wrap (a.1 - b.1)=a.1 - b.1:=IntWalk.i64_in _ (by omega);clear h;go_enter func188,ntmps188;go_wp2;go_ret;rw[E.o];exact⟨rfl,((Fr.refl [] w).alloc _).alloc _⟩
end
end Go.Proofs.YtnmoajaelmimnaaGreatDoor
