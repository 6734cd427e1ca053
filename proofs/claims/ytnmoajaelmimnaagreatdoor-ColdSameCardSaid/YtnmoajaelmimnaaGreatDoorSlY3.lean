/- Contracts; no condition but each theorem's own. -/
import Derived.Test.YtnmoajaelmimnaaGreatDoorSlY1
import Derived.Carry
import Derived.Deep.RegionWith
import Derived.Laws.IdiomCopy
import Derived.Lib.SliceRun
import Derived.Maps.Own
import Derived.Maps.OwnOps
import Derived.Maps.Views
import Derived.RegionTactic
import Derived.StringKeys
import Derived.WalkArith
set_option linter.unusedVariables false
set_option linter.unusedSimpArgs false
set_option maxHeartbeats 8000000
set_option maxRecDepth 100000
namespace Go.Proofs.YtnmoajaelmimnaaGreatDoor
open Go.Proofs.Tryz
section
open Go.RowKit
theorem q71:(∀(l:List (YY×YY)) (A) (c B:Nat) (w:World) (hl:l.length≤281474976710656) (hB:B≤w.heap.size) (hsl:Sl w B 2 (.slice A l.length c) l.length (z0e l)),Calls prog 149 #[.slice A l.length c,.func (Fn.func 150) #[] #[]] w fun e w'=>e=.returned (.bool (rises ltP l))∧Fr [] w w')∧(∀(l:List (Int×YY)) (A) (c B:Nat) (w:World) (hl:l.length≤281474976710656) (hI:∀p∈l,z0o p.1=true) (hB:B≤w.heap.size) (hsl:Sl w B 2 (.slice A l.length c) l.length (z06 l)),Calls prog 187 #[.slice A l.length c,.func (Fn.func 188) #[] #[]] w fun e w'=>e=.returned (.bool (rises ltC l))∧Fr [] w w'):=by
 refine⟨?_,?_⟩;have d:=hid trivial
 rotate_left
 have G:=hid trivial
 all_goals
  first
  | (guard_hyp d
     intro l A c B w hl hB hsl)
  | (intro l A c B w hl hI hB hsl)
  have E:=hid hsl;clear hsl
  first
  | (guard_hyp d
     go_enter func149,ntmps149;go_wp2;go_loopg [5] l.length (fun g i wr=>∃(m:Nat),g=l.length - m∧i=.int .i64 ((m:Int)+1)∧m≤l.length∧rises ltP (l.drop m)=rises ltP l∧Fr [] w wr))
  | (go_enter func187,ntmps187
     go_wp2;go_loopg [5] l.length (fun g i wr=>∃(m:Nat),g=l.length - m∧i=.int .i64 ((m:Int)+1)∧m≤l.length∧rises ltC (l.drop m)=rises ltC l∧Fr [] w wr))
  case atStart=>exact⟨0,rfl,rfl,Xt _,rfl,Fr.refl _ _⟩
  case round=>
   obtain⟨m,rfl,rfl,J,f,h⟩:=hrel;by_cases hlt:m+1 < l.length
   ·
    obtain⟨b,off,rfl,I,K,C,a⟩:=E.o.at_ (by omega);obtain⟨s,hs⟩:∃s,l[m]? = some s:=⟨_,Xa (by omega)⟩;obtain⟨t,k⟩:∃t,l[m+1]? = some t:=⟨_,Xa hlt⟩
    first
    | (guard_hyp d
       have y:wr.cell? ⟨b,off+2 * m,none⟩=some (.string s.1):=h.cell (a _ _ (z0f l m s hs).1) (by simp);have u:wr.cell? ⟨b,off+2 * m+1,none⟩=some (.string s.2):=h.cell (a _ _ (z0f l m s hs).2) (by simp);have x:wr.cell? ⟨b,off+2 * (m+1),none⟩=some (.string t.1):=h.cell (a _ _ (z0f l (m+1) t k).1) (by simp);have r:wr.cell? ⟨b,off+2 * (m+1)+1,none⟩=some (.string t.2):=h.cell (a _ _ (z0f l (m+1) t k).2) (by simp))
    | (have y:wr.cell? ⟨b,off+2 * m,none⟩=some (.int .i64 s.1):=h.cell (a _ _ (z0b l m s hs).1) (by simp)
       have u:wr.cell? ⟨b,off+2 * m+1,none⟩=some (.string s.2):=h.cell (a _ _ (z0b l m s hs).2) (by simp);have x:wr.cell? ⟨b,off+2 * (m+1),none⟩=some (.int .i64 t.1):=h.cell (a _ _ (z0b l (m+1) t k).1) (by simp);have r:wr.cell? ⟨b,off+2 * (m+1)+1,none⟩=some (.string t.2):=h.cell (a _ _ (z0b l (m+1) t k).2) (by simp))
    rw[Ya 2 m] at y u;rw[Ya 2 (m+1)] at x r;rw[zgs hs k] at f
    first
    | (guard_hyp d
       have z:=hid (fun W=>zbw s t W))
    | (have z:=hid (fun W=>zca s t W (hI s (Xj hs)) (hI t (Xj k))))
    clear a hs k;have F:IntKind.i64.wrap ((m:Int)+1)=(m:Int)+1:=IntWalk.i64_in _ (by omega);have D:IntKind.i64.wrap (m:Int)=(m:Int):=IntWalk.i64_in _ (by omega)
    first
    | (guard_hyp d
       by_cases hq:z4i s.1 t.1 < 0)
    | (by_cases hq:za7 s t < 0)
    ·
     first
     | (guard_hyp d
        rw[show ltP s t=true from Xi hq,Vk] at f)
     | (rw[show ltC s t=true from Xi hq,Vk] at f)
     have n:=hid f;clear f;go_wp2
     go_region_with (refine(z.o _).mono ?_;rintro e H ⟨rfl,j⟩)
     all_goals
      go_wp2;go_roundg (l.length - (m+1))
      case measure=>omega
      case rel=>exact⟨m+1,rfl,rfl,by omega,n.o,h.step (T:=[]) ⟨j.os,j.tape,j.output,j.size,j.block⟩ (by simp)⟩
    ·
     first
     | (guard_hyp d
        rw[show ltP s t=false from Xl hq,Uz] at f)
     | (rw[show ltC s t=false from Xl hq,Uz] at f)
     have n:=hid f;clear f;go_wp2
     go_region_with (refine(z.o _).mono ?_;rintro e H ⟨rfl,j⟩)
     all_goals
      go_wp2;go_ret;rw[←n.o];exact⟨rfl,h.step (T:=[]) ⟨j.os,j.tape,j.output,j.size,j.block⟩ (by simp)⟩
   ·
    rw[zl6 (by omega)] at f;have n:=hid f;clear f;go_wp2;go_ret;rw[←n.o];exact⟨rfl,h⟩
abbrev znn:=@And.left _ _ q71
abbrev znm:=@And.right _ _ q71
end
def z1d(l:List (Int×YY)):Int:=
 if l.any (fun p=>!z0o p.1) then 3 else if ¬(l.map (·.2)).Nodup then 6 else if rises ltC l then 0 else 4
def z0a(x:Itm):Int:=
 if ¬(1≤x.kind∧x.kind≤5) then 7
 else if z6q x=false then 1
 else if x.kind=1 then (if 60 < x.text.size then 2 else 0)
 else if many x=0 then 5
 else if 24 < many x∨zax x=true then 2
 else if (x.kind=3∧rises ltS x.list=false)∨(x.kind=4∧rises ltP x.pairs=false) then 4
 else z1d x.scores
section
open Go.RowKit Go.WideMaps Go.Maps
def often(ms:YX)(s:YY):Nat:=ms.countP (fun t=>decide (t=s))
structure Counts{H:Type}(D:DataW H)(ms:YX):Prop where
 isMap:IsMap D
 at_:∀s:YY,D.atKey (.string s.data.toList) (.lit (.int .i64 0))=.lit (.int .i64 (often ms s:Nat))
theorem Counts.nil{H:Type}:Counts (H:=H) (.map []) []:=⟨⟨[],rfl⟩,fun s=>rfl⟩
theorem Counts.step{H:Type}{D:DataW H}{ms:YX}{s:YY}{c:Int}(h:Counts D ms)(hc:D.atKey (.string s.data.toList) (.lit (.int .i64 0))=.lit (.int .i64 c)):
  c=(often ms s:Nat)∧Counts (D.put (.string s.data.toList) (.lit (.int .i64 (c+1)))) (ms++[s]):=by
 have e:c=(often ms s:Nat):=by
  rw[h.at_ s] at hc;injection hc with hc
  injection hc with _ hc
  exact hc.symm
 refine⟨e,?_,fun t=>?_⟩
 ·obtain⟨b,rfl⟩:=h.isMap;exact⟨_,rfl⟩
 ·by_cases ht:t=s
  ·subst ht;rw[atKey_put_same h.isMap (by trivial),e];simp[often,List.countP_append]
  ·rw[atKey_put_other (fun a=>ht (by
    injection a with a
    cases t;cases s;congr 1;exact Array.toList_inj.1 a)),h.at_ t]
   simp[often,List.countP_append,Ne.symm ht]
theorem zvv{ms:YX}{s:YY}:0 < often ms s↔s∈ms:=by
 unfold often;rw[List.countP_pos_iff];constructor
 ·rintro⟨t,a,h⟩;rw[←Yl h];exact a
 ·intro h;exact⟨s,h,Xi rfl⟩
theorem zrf{ms:YX}{s:YY}:(ms++[s]).Nodup↔ms.Nodup∧¬0 < often ms s:=by
 rw[zvv,List.nodup_append];constructor
 ·rintro⟨d,_,h3⟩;exact⟨d,fun e=>h3 s e s (by simp) rfl⟩
 ·rintro⟨d,g⟩;refine⟨d,by simp,fun a f b h=>?_⟩;rw[Uw.1 h];rintro rfl;exact g f
end
def z25(n:Nat):UInt8:=UInt8.ofNat n
def z2c(s:YY):List UInt8:=z25 s.size :: s.data.toList
def z4q(n:Nat):List UInt8:=[z25 (n / 16777216),z25 (n / 65536),z25 (n / 256),z25 n]
def z2m(p:YY×YY):List UInt8:=z2c p.1++z2c p.2
def z29(p:Int×YY):List UInt8:=z4q (p.1+999999999).toNat++z2c p.2
def z1t(x:Itm):List UInt8:=
 z25 x.kind.toNat :: (if x.kind=1 then x.text.data.toList else z25 (many x) :: (x.list.flatMap z2c++(x.pairs.flatMap z2m++x.scores.flatMap z29)))
def zli(n:Nat)(s:YY):Option (YY×YY):=if s.size < n then none else some (s.extract 0 n,s.extract n s.size)
def zet(s:YY):Option (Nat×YY):=if s.size < 1 then none else some (z04 s 0,s.extract 1 s.size)
def zer(s:YY):Option (Nat×YY):=
 if s.size < 4 then none else some (((z04 s 0 * 256+z04 s 1) * 256+z04 s 2) * 256+z04 s 3,s.extract 4 s.size)
def z4l(s:YY):Option (YY×YY):=(zet s).bind fun p=>zli p.1 p.2
def z2q(k:Int):Itm:=⟨k,ByteArray.empty,[],[],[]⟩
def z5f(x:Itm)(s:YY):Option (Itm×YY):=
 if x.kind=4 then (z4l s).bind fun p=>(z4l p.2).map fun q=>({ x with pairs:=x.pairs++[(p.1,q.1)] },q.2)
 else if x.kind=5 then (zer s).bind fun p=>(z4l p.2).map fun q=>({ x with scores:=x.scores++[((p.1:Int) - 999999999,q.1)] },q.2)
 else (z4l s).map fun p=>({ x with list:=x.list++[p.1] },p.2)
def z35:Nat→Itm→YY→Option (Itm×YY)
 | 0,x,s=>some (x,s)
 | n+1,x,s=>(z5f x s).bind fun p=>z35 n p.1 p.2
def z41(s:YY):Option Itm:=
 (zet s).bind fun p=>
  if p.1=1 then some { z2q 1 with text:=p.2 }
  else if 2≤p.1∧p.1≤5 then (zet p.2).bind fun q=>(z35 q.1 (z2q p.1) q.2).bind fun r=>if r.2.size=0 then some r.1 else none
  else none
def z1n(s:YY):Int:=match z41 s with
 | none=>1
 | some x=>z0a x
def z0m(s:YY):Itm:=match z41 s with
 | none=>z2q 0
 | some x=>if z0a x=0 then x else z2q 0
section
open Go.RowKit Go.WideMaps Go.Maps
theorem zvg:Keyed prog 9:=string_keyed underlying9
theorem zxc(w):(zeroValue 3).run prog w=.ok (.int .i64 0) w:=by kernel_rfl
theorem zg3{l:List (Int×YY)}{k:Nat}{p:Int×YY}(hk:l[k]? = some p)(h:z0o p.1=false):z1d l=3:=by
 unfold z1d;rw[Xf (Vs.2 ⟨p,Xj hk,by simp[h]⟩)]
theorem zsu{l:List (Int×YY)}(h:∀p∈l,z0o p.1=true):(l.any fun p=>!z0o p.1)=false:=by
 rw[Ue];intro p a;simp[h p a]
theorem zd5{l:List (Int×YY)}(h:∀p∈l,z0o p.1=true)(h2:¬(l.map (·.2)).Nodup):z1d l=6:=by
 unfold z1d;rw[Xc (by rw[zsu h];decide),Xf h2]
theorem zd4{l:List (Int×YY)}(h:∀p∈l,z0o p.1=true)(h2:(l.map (·.2)).Nodup):z1d l=if rises ltC l then 0 else 4:=by
 unfold z1d;rw[Xc (by rw[zsu h];decide),Xc (fun h3=>h3 h2)]
theorem zst{l:List (Int×YY)}{k:Nat}(hk:l.length≤k)(h:∀(j:Nat) p,j < k→l[j]? = some p→z0o p.1=true):∀p∈l,z0o p.1=true:=by
 intro p b;obtain⟨j,a⟩:=Yd b;exact h j p (by have:=(Xe.1 a).1;omega) a
theorem zco{l:List (Int×YY)}{k:Nat}{p:Int×YY}(hk:l[k]? = some p):(l.take (k+1)).map (·.2)=(l.take k).map (·.2)++[p.2]:=by
 rw[Xz,hk];simp
structure Counted(l:List (Int×YY))(k B:Nat)(D:DataW Unit)(t:Bool)(wr:World):Prop where
 own:wr.ownsMap prog 9 (plainElem prog 3) B k D
 counts:Counts D ((l.take k).map (·.2))
 twice:t=true↔¬((l.take k).map (·.2)).Nodup
 ints:∀(j:Nat) p,j < k→l[j]? = some p→z0o p.1=true
theorem zut{l:List (Int×YY)}{k:Nat}{p:Int×YY}(hk:l[k]? = some p)(hi:z0o p.1=true)(h:∀(j:Nat) p,j < k→l[j]? = some p→z0o p.1=true):
  ∀(j:Nat) p,j < k+1→l[j]? = some p→z0o p.1=true:=by
 intro j q b a;rcases Yc j k with h1|h1
 ·exact h j q h1 a
 ·have e:j=k:=by omega
  subst e;rw[hk] at a;cases a;exact hi
theorem Counted.bounds{l:List (Int×YY)}{k B:Nat}{D:DataW Unit}{t:Bool}{wr:World}{s:YY}{c:Int}(h:Counted l k B D t wr)
  (hc:D.atKey (.string s.data.toList) (.lit (.int .i64 0))=.lit (.int .i64 c)):0≤c∧c≤k:=by
 have hs:=h.counts.step hc
 have a:often ((l.take k).map (·.2)) s≤k:=by
  unfold often;refine Xd List.countP_le_length ?_;rw[Xx];exact Vz _ _
 omega
theorem Counted.step{l:List (Int×YY)}{k B:Nat}{D:DataW Unit}{t:Bool}{wr w1:World}{p:Int×YY}{c:Int}(h:Counted l k B D t wr)(hk:l[k]? = some p)(hi:z0o p.1=true)
  (hc:D.atKey (.string p.2.data.toList) (.lit (.int .i64 0))=.lit (.int .i64 c)) (own:w1.ownsMap prog 9 (plainElem prog 3) B (k+1) (D.put (.string p.2.data.toList) (.lit (.int .i64 (c+1))))):
  0≤c∧c≤k∧Counted l (k+1) B (D.put (.string p.2.data.toList) (.lit (.int .i64 (c+1)))) (t||decide (1 < c+1)) w1:=by
 have hs:=h.counts.step hc
 have b:often ((l.take k).map (·.2)) p.2≤k:=by
  unfold often;refine Xd List.countP_le_length ?_;rw[Xx];exact Vz _ _
 refine⟨by omega,by omega,own,by rw[zco hk];exact hs.2,?_,zut hk hi h.ints⟩;rw[zco hk,zrf];have:=h.twice;have e:(1 < c+1)↔0 < often ((l.take k).map (·.2)) p.2:=by omega
 rw[Jp,decide_eq_true_eq,e,this];constructor
 ·rintro(a|a) ⟨h2,h3⟩
  ·exact a h2
  ·exact h3 a
 ·intro a;by_cases h2:((l.take k).map (·.2)).Nodup
  ·exact .inr (Decidable.not_not.1 fun h3=>a ⟨h2,h3⟩)
  ·exact .inl h2
theorem Counted.again{l:List (Int×YY)}{k B:Nat}{D:DataW Unit}{t:Bool}{wr w1:World}{s:YY}{c:Int}(h:Counted l k B D t wr)
  (hc:D.atKey (.string s.data.toList) (.lit (.int .i64 0))=.lit (.int .i64 c)) (own:w1.ownsMap prog 9 (plainElem prog 3) B (k+1) (D.put (.string s.data.toList) (.lit (.int .i64 (c+1)))))
  (hkey:keyOf prog 9 (.string s)=some (.string s.data.toList)):
  (Instr.lookup 217 (.map (some B)) (.string s) false).run prog w1=.ok (.int .i64 (c+1)) w1:=by
 obtain⟨c2,b,a,_⟩:=own.lookup_int zvg underlying217 underlying3 (zxc _) hkey;rw[atKey_put_same h.counts.isMap (by trivial)] at a;injection a with a
 injection a with _ a
 rw[b,a]
theorem zfw(l:List (Int×YY))(A)(c B:Nat)(w:World)(hl:l.length≤281474976710656)(hsm:∀p∈l,p.2.size≤281474976710656)(hB:B≤w.heap.size)(hsl:Sl w B 2 (.slice A l.length c) l.length (z06 l)):
  Calls prog 151 #[.slice A l.length c] w fun e w'=>e=.returned (.int .i64 (z1d l))∧Fr [] w w':=by
 have M:=@run_makeMap prog;have T:=hid hsl;have X:=hid hsm;clear hsl hsm;go_enter func151,ntmps151;go_wp2;go_loopg [4,10] l.length (fun g tw i wr=>∃(k:Nat) (D:DataW Unit) (t:Bool),g=l.length - k∧k≤l.length∧i=.int .i64 k∧tw=.bool t∧Counted l k w.heap.size D t wr∧Fr [] w wr)
 case atStart=>exact⟨0,.map [],false,rfl,Xt _,rfl,rfl,⟨World.ownsMap_made _ _ _ _,Counts.nil,by simp,fun j p hj=>absurd hj (Vg _)⟩,(Fr.refl [] w).alloc _⟩
 case round=>
  clear M;obtain⟨k,D,t,rfl,S,rfl,rfl,n,u⟩:=hrel;by_cases hlt:k < l.length
  ·obtain⟨b,off,rfl,hb,hc,hm,d⟩:=T.o.at_ (by omega);obtain⟨p,z⟩:∃p,l[k]? = some p:=⟨_,Xa hlt⟩;have P:wr.cell? ⟨b,off+2 * k,none⟩=some (.int .i64 p.1):=u.cell (d _ _ (z0b l k p z).1) (by simp);have J:wr.cell? ⟨b,off+2 * k+1,none⟩=some (.string p.2):=u.cell (d _ _ (z0b l k p z).2) (by simp);rw[Ya 2 k] at P J;have I:=hid (fun W=>z7p p.1 W);by_cases hi:z0o p.1=true
   ·rw[hi] at I;have a1:=X.o p (Xj z);have x:keyOf prog 9 (.string p.2)=some (.string p.2.data.toList):=keyOf_string_mk underlying9 (by unfold maxLen;omega);have O:=hid x;have C:=hid n;have Z:=hid z;have HI:=hid hi;clear d x n z hi;cases t;have L:=hid trivial
    all_goals
     go_wp2_with fail;refine(I.o _).mono ?_;rintro e F ⟨rfl,rfl⟩;go_wp2_with (at_lookup;refine wpList_lookup_own_int _ rfl _ _ 217 rfl 9 3 .i64 zvg underlying217 underlying3 (zxc _) w.heap.size k D rfl (C.o.own.alloc _) _ _ rfl O.o ?_);intro c r H;obtain⟨a0,V⟩:=C.o.bounds r;go_wp2_with (at_mapUpdate;go_must (refine wpList_mapUpdate_own _ rfl _ _ _ 217 rfl 9 3 zvg underlying217 _ w.heap.size k _ rfl (C.o.own.alloc _) (by unfold maxLen;omega) _ _ _ rfl rfl O.o _ [] (plainElem_int underlying3 (WalkArith.wf_i64 (by omega))) ?_));intro F f a;have hs:=C.o.step Z.o HI.o r f
     first
     | (guard_hyp L
        have J:=C.o.again r f O.o;obtain⟨_,_,hs⟩:=hs;have Q:Whole (wr.alloc (.cells #[.int .i64 p.1,.string p.2] 102)) wr.heap.size 102 [.int .i64 p.1,.string p.2]:=Whole.new wr _ _;have U:w.heap.size < wr.heap.size:=C.o.own.lt;have d1:F.cell? ⟨wr.heap.size,1,none⟩=some (.string p.2):=(Q.grown a (by simp;omega)).cell 1)
     | (obtain⟨_,_,hs⟩:=hs
        rw[Bool.true_or] at hs)
     have N:Fr [] w F:=(u.alloc _).grown a (by intro k S;cases S;exact .inr (Xb _));have s:=hid hs
     first
     | (guard_hyp L
        clear hs f a Q r H u;by_cases h1:1 < c+1
        ·rw[Xi h1] at s;go_wp2;go_roundg (l.length - (k+1))
         case measure=>omega
         case rel=>exact⟨k+1,_,true,rfl,by omega,rfl,rfl,s.o,N⟩
        ·rw[Xl h1] at s;go_wp2;go_roundg (l.length - (k+1))
         case measure=>omega
         case rel=>exact⟨k+1,_,false,rfl,by omega,rfl,rfl,s.o,N⟩)
     | (clear hs f a r H u
        go_wp2;go_roundg (l.length - (k+1))
        case measure=>omega
        case rel=>exact⟨k+1,_,true,rfl,by omega,rfl,rfl,s.o,N⟩)
   ·have y:z0o p.1=false:=by simpa using hi
    rw[y] at I;have E:=hid (zg3 z y);clear d n z hi y;go_wp2_with fail;refine(I.o _).mono ?_;rintro e F ⟨rfl,rfl⟩;go_wp2;go_ret;rw[E.o];exact⟨rfl,u.alloc _⟩
  ·have m:=zst (by omega) n.ints;have G:=n.twice;rw[Xw (by omega)] at G;have R:=hid (fun W (hW:Fr [] w W)=>znm l A c B W hl m (Xd hB hW.size) (T.o.fr hW hB (by simp)));cases t
   ·have K:(l.map (·.2)).Nodup:=Decidable.not_not.1 fun h=>by have:=G.2 h;cases this
    have E:=hid (zd4 m K);clear n m G K;cases hr:rises ltC l
    all_goals
     rw[hr] at R E;clear hr;go_wp2_with fail;refine(R.o _ u).mono ?_;rintro e F ⟨rfl,Y⟩;go_wp2;go_ret;rw[E.o];exact⟨rfl,u.trans Y⟩
   ·have E:=hid (zd5 m (G.1 rfl));clear n m G R;go_wp2;go_ret;rw[E.o];exact⟨rfl,u⟩
end
section
open Go.RowKit
theorem five{w:World}{g t:Nat}{a b c d e:Value}(h:Whole w g t [a,b,c,d,e]):
  w.cell? ⟨g,0,none⟩=some a∧w.cell? ⟨g,1,none⟩=some b∧w.cell? ⟨g,2,none⟩=some c∧w.cell? ⟨g,3,none⟩=some d∧w.cell? ⟨g,4,none⟩=some e:=
 ⟨h.cell 0,h.cell 1,h.cell 2,h.cell 3,h.cell 4⟩
theorem z4g(x:Itm)(v)(w:World)(B:Nat)(hs:x.Small)(hB:B≤w.heap.size)(h:z0p w B v x):
  Calls prog 96 #[v] w fun e w'=>e=.returned (.int .i64 (z0a x))∧Fr [] w w':=by
 have Bq:=hid (fun W (hf:Fr [] w W)=>zob x v W B hs (h.fr hf hB (by simp)));have M:=hid (fun W (hf:Fr [] w W)=>zhr x v W B hs (h.fr hf hB (by simp)));have G:=hid (fun W (hf:Fr [] w W)=>zk9 x v W B hs (Xd hB hf.size) (h.fr hf hB (by simp)));obtain⟨A1,c1,A2,c2,A3,c3,rfl,h1,h2,h3⟩:=h;have I:=hid (fun W=>zce x.kind 1 5 W);have L:=hid (fun W=>z3m x.text W);have RS:=hid (fun W (hf:Fr [] w W)=>zno x.list A1 c1 B W hs.list (Xd hB hf.size) (h1.fr hf hB (by simp)));have RP:=hid (fun W (hf:Fr [] w W)=>znn x.pairs A2 c2 B W hs.pairs (Xd hB hf.size) (h2.fr hf hB (by simp)));have SC:=hid (fun W (hf:Fr [] w W)=>zfw x.scores A3 c3 B W hs.scores (fun p hp=>(hs.members p hp).2) (Xd hB hf.size) (h3.fr hf hB (by simp)))
 have a:z0a x=if ¬(1≤x.kind∧x.kind≤5) then 7 else if z6q x=false then 1 else if x.kind=1 then (if 60 < x.text.size then 2 else 0) else if many x=0 then 5 else if 24 < many x∨zax x=true then 2
  else if (x.kind=3∧rises ltS x.list=false)∨(x.kind=4∧rises ltP x.pairs=false) then 4 else z1d x.scores:=rfl
 have ag:many x≤900000000000000:=by
  have:=hs.list;have:=hs.pairs;have:=hs.scores;unfold many;omega
 clear h1 h2 h3 hs;generalize z0a x=r at *;generalize z6q x=b at *;generalize many x=m at *;generalize zax x=g at *;generalize rises ltS x.list=rs at *;generalize rises ltP x.pairs=rp at *;generalize z1d x.scores=sc at *;generalize x.list.length=n1 at *;generalize x.pairs.length=n2 at *;generalize x.scores.length=n3 at *;generalize x.kind=k at *;generalize x.text=t at *;have F:Fr [] w (w.alloc (.cells #[.int .i64 k,.string t,.slice A1 n1 c1,.slice A2 n2 c2,.slice A3 n3 c3] 68)):=(Fr.refl [] w).alloc _;have V0:=hid (show Whole (w.alloc (.cells #[.int .i64 k,.string t,.slice A1 n1 c1,.slice A2 n2 c2,.slice A3 n3 c3] 68)) w.heap.size 68 [.int .i64 k,.string t,.slice A1 n1 c1,.slice A2 n2 c2,.slice A3 n3 c3] from Whole.new w _ _);by_cases hk:1≤k∧k≤5
 ·have q1:(decide (1≤k)&&decide (k≤5))=true:=by simp[hk]
  rw[Xc (fun h=>h hk)] at a;rw[q1] at I;clear q1;cases b
  ·rw[Xf rfl] at a;have E:=hid a;clear a hk;go_enter func96,ntmps96;go_wp2_with fail;refine(I.o _).mono ?_;rintro e K ⟨rfl,rfl⟩;go_wp2_with fail;refine(Bq.o _ F).mono ?_;rintro e K ⟨rfl,n⟩;have y:=F.trans n;have u:=hid (V0.o.fr n (by simp));obtain⟨f,j,l,s,d⟩:=five u.o;go_wp2;go_ret;rw[E.o];exact⟨rfl,y⟩
  ·rw[Xc (by decide)] at a;by_cases k1:k=1
   ·subst k1;rw[Xf rfl] at a;by_cases h6:60 < t.size;have af:=hid trivial
    all_goals
     first
     | (guard_hyp af
        rw[Xf h6] at a;rw[Xi h6] at L)
     | (rw[Xc h6] at a
        rw[Xl h6] at L)
     have E:=hid a;clear a hk;go_enter func96,ntmps96;go_wp2_with fail;refine(I.o _).mono ?_;rintro e K ⟨rfl,rfl⟩;go_wp2_with fail;refine(Bq.o _ F).mono ?_;rintro e K ⟨rfl,n⟩;have y:=F.trans n;have u:=hid (V0.o.fr n (by simp));obtain⟨f,j,l,s,d⟩:=five u.o;go_wp2_with fail;refine(L.o _).mono ?_;rintro e K ⟨rfl,rfl⟩;go_wp2;go_ret;rw[E.o];exact⟨rfl,y⟩
   ·rw[Xc k1] at a;have q1:(k==1)=false:=by simpa using k1
    clear k1;by_cases hm0:m=0
    ·rw[Xf hm0] at a;subst hm0;have E:=hid a;clear a hk;go_enter func96,ntmps96;go_wp2_with fail;refine(I.o _).mono ?_;rintro e K ⟨rfl,rfl⟩;go_wp2_with fail;refine(Bq.o _ F).mono ?_;rintro e K ⟨rfl,n⟩;have y:=F.trans n;have u:=hid (V0.o.fr n (by simp));obtain⟨f,j,l,s,d⟩:=five u.o;go_wp2_with fail;refine(M.o _ y).mono ?_;rintro e w2 ⟨rfl,A⟩;have N:=y.trans A;have O:=hid (u.o.fr A (by simp));obtain⟨H,z,C,J,D⟩:=five O.o;go_wp2;go_ret;rw[E.o];exact⟨rfl,N⟩
    ·rw[Xc hm0] at a;have qm:((m:Int)==0)=false:=by simp;omega
     by_cases h24:24 < m
     ·rw[Xf (.inl h24)] at a;have E:=hid a;clear a hk hm0;go_enter func96,ntmps96;go_wp2_with fail;refine(I.o _).mono ?_;rintro e K ⟨rfl,rfl⟩;go_wp2_with fail;refine(Bq.o _ F).mono ?_;rintro e K ⟨rfl,n⟩;have y:=F.trans n;have u:=hid (V0.o.fr n (by simp));obtain⟨f,j,l,s,d⟩:=five u.o;go_wp2_with fail;refine(M.o _ y).mono ?_;rintro e w2 ⟨rfl,A⟩;have N:=y.trans A;have O:=hid (u.o.fr A (by simp));obtain⟨H,z,C,J,D⟩:=five O.o;go_wp2_with fail;refine(M.o _ N).mono ?_;rintro e w3 ⟨rfl,U⟩;have X:=N.trans U;have V:=hid (O.o.fr U (by simp));obtain⟨P,T,R,S,Q⟩:=five V.o;go_wp2;go_ret;rw[E.o];exact⟨rfl,X⟩
     ·cases g
      ·rw[Xc (by simp[h24])] at a;by_cases k3:k=3
       ·subst k3;cases rs;have a6:=hid trivial
        all_goals
         first
         | (guard_hyp a6
            rw[Xf (.inl ⟨rfl,rfl⟩)] at a)
         | (rw[Xc (by simp)] at a)
         have E:=hid a;clear a hk hm0;go_enter func96,ntmps96;go_wp2_with fail;refine(I.o _).mono ?_;rintro e K ⟨rfl,rfl⟩;go_wp2_with fail;refine(Bq.o _ F).mono ?_;rintro e K ⟨rfl,n⟩;have y:=F.trans n;have u:=hid (V0.o.fr n (by simp));obtain⟨f,j,l,s,d⟩:=five u.o;go_wp2_with fail;refine(M.o _ y).mono ?_;rintro e w2 ⟨rfl,A⟩;have N:=y.trans A;have O:=hid (u.o.fr A (by simp));obtain⟨H,z,C,J,D⟩:=five O.o;go_wp2_with fail;refine(M.o _ N).mono ?_;rintro e w3 ⟨rfl,U⟩;have X:=N.trans U;have V:=hid (O.o.fr U (by simp));obtain⟨P,T,R,S,Q⟩:=five V.o;go_wp2_with fail;refine(G.o _ X).mono ?_;rintro e w4 ⟨rfl,f4⟩;have F4:=X.trans f4;have V4:=hid (V.o.fr f4 (by simp));obtain⟨Z,Y,a0,a2,a1⟩:=five V4.o;go_wp2_with fail;refine(RS.o _ F4).mono ?_;rintro e w5 ⟨rfl,f5⟩;have F5:=F4.trans f5;have V5:=hid (V4.o.fr f5 (by simp));obtain⟨a4,a7,a5,a3,a9⟩:=five V5.o
         first
         | (guard_hyp a6
            go_wp2;go_ret;rw[E.o];exact⟨rfl,F5⟩)
         | (go_wp2_with fail
            refine(SC.o _ F5).mono ?_;rintro e w6 ⟨rfl,f6⟩;have F6:=F5.trans f6;have V6:=hid (V5.o.fr f6 (by simp));obtain⟨ab,ae,ad,ac,aa⟩:=five V6.o;go_wp2;go_ret;rw[E.o];exact⟨rfl,F6⟩)
       ·have q3:(k==3)=false:=by simpa using k3
        by_cases k4:k=4
        ·subst k4;cases rp;have a8:=hid trivial
         all_goals
          first
          | (guard_hyp a8
             rw[Xf (.inr ⟨rfl,rfl⟩)] at a)
          | (rw[Xc (by simp)] at a)
          have E:=hid a;clear a hk hm0 k3;go_enter func96,ntmps96;go_wp2_with fail;refine(I.o _).mono ?_;rintro e K ⟨rfl,rfl⟩;go_wp2_with fail;refine(Bq.o _ F).mono ?_;rintro e K ⟨rfl,n⟩;have y:=F.trans n;have u:=hid (V0.o.fr n (by simp));obtain⟨f,j,l,s,d⟩:=five u.o;go_wp2_with fail;refine(M.o _ y).mono ?_;rintro e w2 ⟨rfl,A⟩;have N:=y.trans A;have O:=hid (u.o.fr A (by simp));obtain⟨H,z,C,J,D⟩:=five O.o;go_wp2_with fail;refine(M.o _ N).mono ?_;rintro e w3 ⟨rfl,U⟩;have X:=N.trans U;have V:=hid (O.o.fr U (by simp));obtain⟨P,T,R,S,Q⟩:=five V.o;go_wp2_with fail;refine(G.o _ X).mono ?_;rintro e w4 ⟨rfl,f4⟩;have F4:=X.trans f4;have V4:=hid (V.o.fr f4 (by simp));obtain⟨Z,Y,a0,a2,a1⟩:=five V4.o;go_wp2_with fail;refine(RP.o _ F4).mono ?_;rintro e w5 ⟨rfl,f5⟩;have F5:=F4.trans f5;have V5:=hid (V4.o.fr f5 (by simp));obtain⟨a4,a7,a5,a3,a9⟩:=five V5.o
          first
          | (guard_hyp a8
             go_wp2;go_ret;rw[E.o];exact⟨rfl,F5⟩)
          | (go_wp2_with fail
             refine(SC.o _ F5).mono ?_;rintro e w6 ⟨rfl,f6⟩;have F6:=F5.trans f6;have V6:=hid (V5.o.fr f6 (by simp));obtain⟨ab,ae,ad,ac,aa⟩:=five V6.o;go_wp2;go_ret;rw[E.o];exact⟨rfl,F6⟩)
        ·have q4:(k==4)=false:=by simpa using k4
         rw[Xc (by simp[k3,k4])] at a;have E:=hid a;clear a hk hm0 k3 k4;go_enter func96,ntmps96;go_wp2_with fail;refine(I.o _).mono ?_;rintro e K ⟨rfl,rfl⟩;go_wp2_with fail;refine(Bq.o _ F).mono ?_;rintro e K ⟨rfl,n⟩;have y:=F.trans n;have u:=hid (V0.o.fr n (by simp));obtain⟨f,j,l,s,d⟩:=five u.o;go_wp2_with fail;refine(M.o _ y).mono ?_;rintro e w2 ⟨rfl,A⟩;have N:=y.trans A;have O:=hid (u.o.fr A (by simp));obtain⟨H,z,C,J,D⟩:=five O.o;go_wp2_with fail;refine(M.o _ N).mono ?_;rintro e w3 ⟨rfl,U⟩;have X:=N.trans U;have V:=hid (O.o.fr U (by simp));obtain⟨P,T,R,S,Q⟩:=five V.o;go_wp2_with fail;refine(G.o _ X).mono ?_;rintro e w4 ⟨rfl,f4⟩;have F4:=X.trans f4;have V4:=hid (V.o.fr f4 (by simp));obtain⟨Z,Y,a0,a2,a1⟩:=five V4.o;go_wp2_with fail;refine(SC.o _ F4).mono ?_;rintro e w5 ⟨rfl,f5⟩;have F5:=F4.trans f5;have V5:=hid (V4.o.fr f5 (by simp));obtain⟨a4,a7,a5,a3,a9⟩:=five V5.o;go_wp2;go_ret;rw[E.o];exact⟨rfl,F5⟩
      ·rw[Xf (.inr rfl)] at a;have E:=hid a;clear a hk hm0;go_enter func96,ntmps96;go_wp2_with fail;refine(I.o _).mono ?_;rintro e K ⟨rfl,rfl⟩;go_wp2_with fail;refine(Bq.o _ F).mono ?_;rintro e K ⟨rfl,n⟩;have y:=F.trans n;have u:=hid (V0.o.fr n (by simp));obtain⟨f,j,l,s,d⟩:=five u.o;go_wp2_with fail;refine(M.o _ y).mono ?_;rintro e w2 ⟨rfl,A⟩;have N:=y.trans A;have O:=hid (u.o.fr A (by simp));obtain⟨H,z,C,J,D⟩:=five O.o;go_wp2_with fail;refine(M.o _ N).mono ?_;rintro e w3 ⟨rfl,U⟩;have X:=N.trans U;have V:=hid (O.o.fr U (by simp));obtain⟨P,T,R,S,Q⟩:=five V.o;go_wp2_with fail;refine(G.o _ X).mono ?_;rintro e w4 ⟨rfl,f4⟩;have F4:=X.trans f4;have V4:=hid (V.o.fr f4 (by simp));obtain⟨Z,Y,a0,a2,a1⟩:=five V4.o;go_wp2;go_ret;rw[E.o];exact⟨rfl,F4⟩
 ·rw[Xf hk] at a;have q1:(decide (1≤k)&&decide (k≤5))=false:=by simp;omega
  rw[q1] at I;have E:=hid a;clear a hk q1;go_enter func96,ntmps96;go_wp2_with fail;refine(I.o _).mono ?_;rintro e K ⟨rfl,rfl⟩;go_wp2;go_ret;rw[E.o];exact⟨rfl,F⟩
theorem q01{t:YY}(h:t.size=0):t=⟨#[]⟩:=by
 cases t with
 | mk d=>
  congr 1;exact Ja h
theorem neNil{t:YY}(h:¬t.size=0):(t.toList != [])=true∧t.toList.isEmpty=false:=by
 have:=q60 t;rw[show ByteArray.toList ⟨#[]⟩=[] from by decide +kernel,Xl h] at this;have a:t.toList≠[]:=by simpa using this
 exact⟨by simpa using a,by simpa using a⟩
end
theorem zt3:∀a:List UInt8,Lib.compareBytes a a=0
 | []=>rfl
 | x :: r=>by
  show(if x < x then -1 else if x < x then 1 else Lib.compareBytes r r)=0;rw[Xc (UInt8.lt_irrefl x),Xc (UInt8.lt_irrefl x),zt3 r]
theorem q5n:∀a b:List UInt8,Lib.compareBytes a b=0→a=b
 | [],[],_=>rfl
 | [],y :: s,h=>by cases h
 | x :: r,[],h=>by cases h
 | x :: r,y :: s,h=>by
  have h':(if x < y then -1 else if y < x then 1 else Lib.compareBytes r s)=(0:Int):=h;by_cases h1:x < y
  ·rw[Xf h1] at h';cases h'
  ·rw[Xc h1] at h';by_cases h2:y < x
   ·rw[Xf h2] at h';cases h'
   ·rw[Xc h2] at h'
    have e:x=y:=by
     apply UInt8.toNat_inj.1;rw[UInt8.lt_iff_toNat_lt] at h1 h2;omega
    rw[e,q5n r s h']
theorem zt1:∀a b:List UInt8,Lib.compareBytes b a=- Lib.compareBytes a b
 | [],[]=>rfl
 | [],y :: s=>rfl
 | x :: r,[]=>rfl
 | x :: r,y :: s=>by
  show(if y < x then -1 else if x < y then 1 else Lib.compareBytes s r)=- (if x < y then -1 else if y < x then 1 else Lib.compareBytes r s);by_cases h1:x < y
  ·have h2:¬y < x:=by have:=UInt8.lt_iff_toNat_lt.1 h1;rw[UInt8.lt_iff_toNat_lt];omega
   rw[Xc h2,Xf h1,Xf h1];rfl
  ·rw[Xc h1,Xc h1];by_cases h2:y < x
   ·rw[Xf h2,Xf h2]
   ·rw[Xc h2,Xc h2,zt1 r s]
theorem zog:∀a b c:List UInt8,Lib.compareBytes a b < 0→Lib.compareBytes b c < 0→Lib.compareBytes a c < 0
 | [],[],_,h,_=>by exact absurd h (by decide)
 | x :: r,[],_,h,_=>by exact absurd (show(1:Int) < 0 from h) (by decide)
 | _,y :: s,[],_,h=>by exact absurd (show(1:Int) < 0 from h) (by decide)
 | [],y :: s,z :: t,_,_=>by show(-1:Int) < 0;decide
 | x :: r,y :: s,z :: t,h1,h2=>by
  have h1':(if x < y then -1 else if y < x then 1 else Lib.compareBytes r s) < (0:Int):=h1;have h2':(if y < z then -1 else if z < y then 1 else Lib.compareBytes s t) < (0:Int):=h2;show(if x < z then -1 else if z < x then 1 else Lib.compareBytes r t) < (0:Int);simp only[UInt8.lt_iff_toNat_lt] at *;by_cases a1:x.toNat < y.toNat
  ·by_cases b1:y.toNat < z.toNat
   ·rw[Xf (by omega)];decide
   ·by_cases b2:z.toNat < y.toNat
    ·rw[Xc b1,Xf b2] at h2';exact absurd h2' (by decide)
    ·rw[Xf (by omega)];decide
  ·rw[Xc a1] at h1';by_cases a2:y.toNat < x.toNat
   ·rw[Xf a2] at h1';exact absurd h1' (by decide)
   ·rw[Xc a2] at h1';by_cases b1:y.toNat < z.toNat
    ·rw[Xf (by omega)];decide
    ·rw[Xc b1] at h2';by_cases b2:z.toNat < y.toNat
     ·rw[Xf b2] at h2';exact absurd h2' (by decide)
     ·rw[Xc b2] at h2';rw[Xc (by omega),Xc (by omega)];exact zog r s t h1' h2'
theorem z64(a):z4i a a=0:=zt3 _
theorem za6{a b:YY}(h:z4i a b=0):a=b:=by
 have:=q5n _ _ h;obtain⟨⟨a⟩⟩:=a;obtain⟨⟨b⟩⟩:=b;simp at this;subst this;rfl
theorem z78(a b):z4i b a=- z4i a b:=zt1 _ _
theorem z4u{a b c:YY}(h1:z4i a b < 0)(h2:z4i b c < 0):z4i a c < 0:=zog _ _ _ h1 h2
theorem z83{α:Type}{lt:α→α→Bool}(htr:∀a b c,lt a b=true→lt b c=true→lt a c=true):∀ {l:List α},rises lt l=true→∀ {i j:Nat} {a b:α},i < j→l[i]? = some a→l[j]? = some b→lt a b=true
 | [],_,i,j,a,b,_,h,_=>by simp at h
 | [x],_,i,j,a,b,hij,_,h=>by
  have:=(Xe.1 h).1;simp at this;omega
 | x :: y :: r,h,i,j,a,b,hij,ha,hb=>by
  have h':(lt x y&&rises lt (y :: r))=true:=h;rw[Yf] at h';obtain⟨j',rfl⟩:∃j',j=j'+1:=⟨j - 1,by omega⟩;rw[Uf] at hb
  match i with
  | 0=>
   rw[Uq] at ha;cases ha
   match j' with
   | 0=>rw[Uq] at hb;cases hb;exact h'.1
   | j''+1=>exact htr _ _ _ h'.1 (z83 htr h'.2 (i:=0) (j:=j''+1) (by omega) rfl hb)
  | i'+1=>
   rw[Uf] at ha;exact z83 htr h'.2 (i:=i') (j:=j') (by omega) ha hb
theorem z2u{α:Type}{lt:α→α→Bool}(htr:∀a b c,lt a b=true→lt b c=true→lt a c=true){l:List α}(h:rises lt l=true):l.Pairwise (fun a b=>lt a b=true):=by
 rw[Vt];intro i j hi e d;exact z83 htr h d (Xa hi) (Xa e)
theorem zdj{α:Type}{lt:α→α→Bool}:∀ {l:List α},(∀(i:Nat) a b,l[i]? = some a→l[i+1]? = some b→lt a b=true)→rises lt l=true
 | [],_=>rfl
 | [x],_=>rfl
 | x :: y :: r,h=>by
  show(lt x y&&rises lt (y :: r))=true;rw[Yf];exact⟨h 0 x y rfl rfl,zdj fun i a b ha hb=>h (i+1) a b ha hb⟩
theorem z34{α:Type}{lt:α→α→Bool}{l:List α}(h:l.Pairwise (fun a b=>lt a b=true)):rises lt l=true:=by
 apply zdj;intro i a b e f;obtain⟨hi,rfl⟩:=Xe.1 e;obtain⟨d,rfl⟩:=Xe.1 f;exact Vt.1 h i (i+1) hi d (Je i)
section
variable {α:Type} (key:α→YY)
def z1e(l:List α)(f:YY):Nat:=(l.takeWhile fun q=>decide (z4i (key q) f < 0)).length
def z4o(l:List α)(f:YY):Bool:=match l[z1e key l f]? with|some q=>decide (z4i (key q) f=0)|none=>false
def zd3(l:List α)(p:α):List α:=if z4o key l (key p)=true then l.set (z1e key l (key p)) p else l.take (z1e key l (key p))++p :: l.drop (z1e key l (key p))
def ltK(a b:α):Bool:=decide (z4i (key a) (key b) < 0)
theorem z63(l:List α)(f):z1e key l f≤l.length:=by
 unfold z1e;exact(List.takeWhile_sublist _).length_le
theorem z7s:∀ {l:List α} {f:YY} {k:Nat} {q:α},k < z1e key l f→l[k]? = some q→z4i (key q) f < 0
 | [],f,k,q,h,hq=>by simp at hq
 | x :: r,f,k,q,h,hq=>by
  unfold z1e at h;rw[Jm] at h;by_cases hx:z4i (key x) f < 0
  ·rw[Xf (by simpa using hx)] at h
   match k with
   | 0=>rw[Uq] at hq;cases hq;exact hx
   | k'+1=>
    rw[Uf] at hq;exact z7s (l:=r) (k:=k') (by unfold z1e;simp at h;omega) hq
  ·rw[Xc (by simpa using hx)] at h;simp at h
theorem zek:∀ {l:List α} {f:YY} {q:α},l[z1e key l f]? = some q→¬z4i (key q) f < 0
 | [],f,q,hq=>by simp at hq
 | x :: r,f,q,hq=>by
  unfold z1e at hq;rw[Jm] at hq;by_cases hx:z4i (key x) f < 0
  ·rw[Xf (by simpa using hx),Xy,Uf] at hq;exact zek (l:=r) hq
  ·rw[Xc (by simpa using hx)] at hq;simp at hq;rw[←hq];exact hx
theorem z3r(a b c:α)(h1:ltK key a b=true)(h2:ltK key b c=true):ltK key a c=true:=
 Xi (z4u (Yl h1) (Yl h2))
theorem zel{l:List α}{f:YY}{k:Nat}{q:α}(hr:rises (ltK key) l=true)(hk:z1e key l f≤k)(hq:l[k]? = some q):¬z4i (key q) f < 0:=by
 obtain⟨a,_⟩:=Xe.1 hq;obtain⟨g,b⟩:∃g,l[z1e key l f]? = some g:=⟨_,Xa (by omega)⟩;have d:=zek key b;rcases Yc (z1e key l f) k with h|h
 ·intro a;have:=Yl (z83 (z3r key) hr h b hq);exact d (z4u this a)
 ·have e:k=z1e key l f:=by omega
  rw[e,b] at hq;cases hq;exact d
theorem q3l{l:List α}{f:YY}{k:Nat}{q:α}(hr:rises (ltK key) l=true)(hk:z1e key l f < k)(hq:l[k]? = some q):0 < z4i (key q) f:=by
 obtain⟨g,_⟩:=Xe.1 hq;obtain⟨a,d⟩:∃a,l[z1e key l f]? = some a:=⟨_,Xa (by omega)⟩;have e:=zek key d;have b:=Yl (z83 (z3r key) hr hk d hq);have j:=z78 (key a) f;rcases Jh (z4i (key q) f) 0 with h|h|h
 ·exact absurd (z4u b h) e
 ·rw[za6 h] at b;exact absurd b e
 ·exact h
theorem z2s{l:List α}{f:YY}:z4o key l f=true↔∃q,l[z1e key l f]? = some q∧key q=f:=by
 unfold z4o;constructor
 ·intro h;split at h
  ·rename_i q a;exact⟨q,a,za6 (Yl h)⟩
  ·cases h
 ·rintro⟨q,a,rfl⟩;rw[a];exact Xi (z64 _)
theorem zgi{l:List α}{k:Nat}{q:α}(hr:rises (ltK key) l=true)(hq:l[k]? = some q):z1e key l (key q)=k:=by
 rcases Nat.lt_trichotomy k (z1e key l (key q)) with h|h|h
 ·have:=z7s key h hq;rw[z64] at this;exact absurd this (by decide)
 ·exact h.symm
 ·have:=q3l key hr h hq;rw[z64] at this;exact absurd this (by decide)
theorem ze4{l:List α}{k:Nat}{q:α}(hr:rises (ltK key) l=true)(hq:l[k]? = some q):z4o key l (key q)=true:=
 (z2s key).2 ⟨q,by rw[zgi key hr hq];exact hq,rfl⟩
theorem zng(l:List α)(p:α):(zd3 key l p).length=if z4o key l (key p)=true then l.length else l.length+1:=by
 unfold zd3;have:=z63 key l (key p);by_cases h:z4o key l (key p)=true
 ·rw[Xf h,Xf h,Ug]
 ·rw[Xc h,Xc h,Xk,Xy,Xp,Xr];omega
theorem q0k{l:List α}{p q:α}(h:q∈zd3 key l p):q=p∨q∈l:=by
 unfold zd3 at h;by_cases hh:z4o key l (key p)=true
 ·rw[Xf hh] at h;rcases Us h with h|h
  ·exact .inr h
  ·exact .inl h
 ·rw[Xc hh] at h;rcases Ys.1 h with h|h
  ·exact .inr (Ud h)
  ·rcases Yh.1 h with h|h
   ·exact .inl h
   ·exact .inr (Yp h)
theorem zgr{l:List α}(p:α)(hr:rises (ltK key) l=true):rises (ltK key) (zd3 key l p)=true:=by
 have n:=z63 key l (key p);have step:∀ {i:Nat} {a b:α},l[i]? = some a→l[i+1]? = some b→ltK key a b=true:=fun f d=>z83 (z3r key) hr (Je _) f d;unfold zd3;by_cases hh:z4o key l (key p)=true
 ·rw[Xf hh];obtain⟨q,g,j⟩:=(z2s key).1 hh;have e:=(Xe.1 g).1;apply zdj;intro i a b f d;by_cases h1:i=z1e key l (key p)
  ·rw[h1,Ut e] at f;rw[h1,Um (by omega)] at d;cases f;have:=step g d;unfold ltK at this ⊢;rw[←j];exact this
  ·rw[Um (by omega)] at f;by_cases h2:i+1=z1e key l (key p)
   ·rw[h2,Ut e] at d;cases d;rw[←h2] at g;have:=step f g;unfold ltK at this ⊢;rw[←j];exact this
   ·rw[Um (by omega)] at d;exact step f d
 ·rw[Xc hh];have k:∀q,l[z1e key l (key p)]? = some q→key q≠key p:=fun q g j=>hh ((z2s key).2 ⟨q,g,j⟩);apply zdj;intro i a b f d;have e:(l.take (z1e key l (key p))).length=z1e key l (key p):=by rw[Xp];omega
  rcases Nat.lt_trichotomy (i+1) (z1e key l (key p)) with h|h|h
  ·rw[Xu (by omega),Vx (by omega)] at f d;exact step f d
  ·rw[Xu (by omega),Vx (by omega)] at f;rw[Xq (by omega),e,show i+1 - z1e key l (key p)=0 by omega,Uq] at d;cases d;exact Xi (z7s key (by omega) f)
  ·by_cases h2:i=z1e key l (key p)
   ·rw[Xq (by omega),e,show i - z1e key l (key p)=0 by omega,Uq] at f;rw[Xq (by omega),e,show i+1 - z1e key l (key p)=0+1 by omega,Uf,Yg,Ye] at d;cases f;have m:=zek key d;have r:=k b d;have s:=z78 (key b) (key p);refine Xi ?_;rcases Jh (z4i (key b) (key p)) 0 with h|h|h
    ·exact absurd h m
    ·exact absurd (za6 h) r
    ·omega
   ·rw[Xq (by omega),e,show i - z1e key l (key p)=(i - 1 - z1e key l (key p))+1 by omega,Uf,Yg] at f;rw[Xq (by omega),e,show i+1 - z1e key l (key p)=(i - z1e key l (key p))+1 by omega,Uf,Yg] at d;rw[show z1e key l (key p)+(i - 1 - z1e key l (key p))=i - 1 by omega] at f;rw[show z1e key l (key p)+(i - z1e key l (key p))=i - 1+1 by omega] at d;exact step f d
end
section
open Go.RowKit
section
variable {w w':World} {B size n:Nat} {xs:List Value}
theorem Sl.cut{A:YV}{c:Nat}(h:Sl w B size (.slice A n c) n xs){a b:Nat}(hab:a≤b)(hb:b≤n):
  Sl w B size (.slice (if c=a then A else A.map (·.add (a * size))) (b - a) (c - a)) (b - a) ((xs.drop (a * size)).take ((b - a) * size)):=by
 obtain⟨y,s,e,l,x,p,hr⟩:=h;cases e;refine⟨_,_,rfl,?_,by omega,by unfold maxLen at *;omega,fun z=>?_⟩
 ·rw[Xp,Xr,l];have t:(b - a) * size≤(n - a) * size:=Yk _ (by omega);have r:n * size - a * size=(n - a) * size:=(Nat.sub_mul n a size).symm;omega
 ·obtain⟨g,off,rfl,m,d⟩:=hr (by omega);rw[Xc (by omega)];refine⟨g,off+a * size,?_,m,fun j u f=>?_⟩
  ·show some ((⟨g,off,none⟩:Addr).add (a * size))=_;unfold Addr.add;split
   ·have k:a * size=0:=by assumption
    rw[k];rfl
   ·rfl
  ·rw[Un] at f;split at f
   ·rw[Yg] at f;rw[Yb];exact d _ u f
   ·cases f
end
section
variable {P:Program} (w:World)
theorem zc9(base:Nat)(t ty e:TypeId)(i:TypeInfo)(size:Nat)(ht:P.underlying t=some (.slice e))(hi:P.info? e=some i)
  (v:Value) (n:Nat) (xs:List Value) (hown:w.ownsRow base e size v n xs) (c:Nat):(Builtin.append_ #[t,t] ty #[v,.slice none 0 c]).run P w=.ok v w:=by
 rcases hown.2 with⟨rfl,rfl⟩|⟨g,cap,cur,rfl,_,_,hnc,_⟩
 ·simp[Builtin.append_,run_underlying ht,sizeOf,typeInfo,hi,Builtin.lenOf,Builtin.firstCells]
 ·simp[Builtin.append_,run_underlying ht,sizeOf,typeInfo,hi,Builtin.lenOf,Builtin.firstCells,hnc,storeCells]
theorem zbe(base:Nat)(t ty e:TypeId)(i:TypeInfo)(z)(size bytes:Nat)(ht:P.underlying t=some (.slice e))(hi:P.info? e=some i)(hz:i.zero=some z)
  (hsize:i.size=size) (hby:i.bytes=bytes) (hzs:z.cells.size=size) (hsz:0 < size)
  (v:Value) (n:Nat) (xs:List Value) (hown:w.ownsRow base e size v n xs)
  (B:Nat) (x:Value) (m:Nat) (news:List Value) (hr:Sl w B size x m news) (h1:∀u∈news,u.oneCell'=true)
  (h63:n+m≤maxLen) (hbytes:(n+m) * bytes≤140737488355328) (hbase:base≤w.heap.size):
  ∃v' w',(Builtin.append_ #[t,t] ty #[v,x]).run P w=.ok v' w'∧w'.ownsRow base e size v' (n+m) (xs++news)∧w.grownBy w' v.ownBlock ∧
   (v'.ownBlock=v.ownBlock∨v'.ownBlock=some w.heap.size):=by
 obtain⟨A,c,rfl,k,r,D,a⟩:=hr;rcases A with _|ad
 ·have b:m=0:=by
   rcases Yq m with b|b
   ·exact b
   ·obtain⟨_,_,h,_⟩:=a b;cases h
  subst b;have l:news=[]:=Xo (by simpa using k);subst l;exact⟨v,w,zc9 w base t ty e i size ht hi v n xs hown c,by simpa using hown,⟨rfl,rfl,rfl,Xb _,fun _ _ _=>rfl⟩,.inl rfl⟩
 ·have d:∀j u,news[j]? = some u→w.cell? (ad.add j)=some u:=by
   intro j u p;rcases Yq m with b|b
   ·subst b;have l:news=[]:=Xo (by simpa using k);subst l;simp at p
   ·obtain⟨g,off,h,_,r⟩:=a b;injection h with h
    subst h;have:=r j u p;unfold Addr.add;split
    ·have s:j=0:=by assumption
     subst s;exact this
    ·exact this
  obtain⟨v',w',f,y,h3,_,C⟩:=run_append_own_at (P:=P) w base t ty e i z size bytes ht hi hz hsize hby hzs hsz v n xs hown ad m c news k d h1 h63 hbytes hbase;exact⟨v',w',f,y,h3,C⟩
theorem zcv{o:Oper}{a:Act}{K:Act→World→Prop}{Q:Exit→Act→World→Prop}(s x:Operand)(t:TypeId)
  (ho:o.op=.call { callee:=.builtin .append,args:=#[s,x],argTypes:=#[t,t] })
  (base:Nat) (e:TypeId) (i:TypeInfo) (z:Value) (size bytes:Nat) (ht:P.underlying t=some (.slice e)) (hi:P.info? e=some i) (hz:i.zero=some z)
  (hsize:i.size=size) (hby:i.bytes=bytes) (hzs:z.cells.size=size) (hsz:0 < size)
  (v:Value) (n:Nat) (xs:List Value) (hs:a.eval s=v) (hown:w.ownsRow base e size v n xs)
  (B:Nat) (vx:Value) (m:Nat) (news:List Value) (hx:a.eval x=vx) (hr:Sl w B size vx m news) (h1:∀u∈news,u.oneCell'=true)
  (h63:n+m≤maxLen) (hbytes:(n+m) * bytes≤140737488355328) (hbase:base≤w.heap.size)
  (h:∀v' w',w'.ownsRow base e size v' (n+m) (xs++news)→w.grownBy w' v.ownBlock→(v'.ownBlock=v.ownBlock∨v'.ownBlock=some w.heap.size)→K (a.put o.dst v') w'):o.wp P a w K Q:=by
 obtain⟨v',w',b,d,h3,h4⟩:=zbe (P:=P) w base t o.type e i z size bytes ht hi hz hsize hby hzs hsz v n xs hown B vx m news hr h1 h63 hbytes hbase;unfold Oper.wp execOp;simp only[ho,resolve,invoke,builtin,Sem.run_bind,Sem.run_pure,Result.andThen_ok,Jz,Yv,Vr,hs,hx,b];exact h v' w' d h3 h4
theorem z0c{ops:Array Oper}{rest:List Oper}{o:Oper}{a:Act}{Q:Exit→Act→World→Prop}(hgd:o.guard=none)(s x:Operand)(t:TypeId)
  (ho:o.op=.call { callee:=.builtin .append,args:=#[s,x],argTypes:=#[t,t] })
  (base:Nat) (e:TypeId) (i:TypeInfo) (z:Value) (size bytes:Nat) (ht:P.underlying t=some (.slice e)) (hi:P.info? e=some i) (hz:i.zero=some z)
  (hsize:i.size=size) (hby:i.bytes=bytes) (hzs:z.cells.size=size) (hsz:0 < size)
  (v:Value) (n:Nat) (xs:List Value) (hs:a.eval s=v) (hown:w.ownsRow base e size v n xs)
  (B:Nat) (vx:Value) (m:Nat) (news:List Value) (hx:a.eval x=vx) (hr:Sl w B size vx m news) (h1:∀u∈news,u.oneCell'=true)
  (h63:n+m≤maxLen) (hbytes:(n+m) * bytes≤140737488355328) (hbase:base≤w.heap.size)
  (h:∀v' w',w'.ownsRow base e size v' (n+m) (xs++news)→w.grownBy w' v.ownBlock→(v'.ownBlock=v.ownBlock∨v'.ownBlock=some w.heap.size)→wpList P ops Q rest (a.put o.dst v') w'):wpList P ops Q (o :: rest) a w:=
 wpList_plain hgd fun _ hK=>zcv w s x t ho base e i z size bytes ht hi hz hsize hby hzs hsz v n xs hs hown B vx m news hx hr h1 h63 hbytes hbase fun v' w' h2 h3 h4=>hK _ _ (h v' w' h2 h3 h4)
theorem z3u{ops:Array Oper}{o:Oper}{a:Act}{K:Act→World→Prop}{Q:Exit→Act→World→Prop}{E:Prop}(hgd:o.guard=none)(s x:Operand)(t:TypeId)
  (ho:o.op=.call { callee:=.builtin .append,args:=#[s,x],argTypes:=#[t,t] })
  (base:Nat) (e:TypeId) (i:TypeInfo) (z:Value) (size bytes:Nat) (ht:P.underlying t=some (.slice e)) (hi:P.info? e=some i) (hz:i.zero=some z)
  (hsize:i.size=size) (hby:i.bytes=bytes) (hzs:z.cells.size=size) (hsz:0 < size)
  (v:Value) (n:Nat) (xs:List Value) (hs:a.eval s=v) (hown:w.ownsRow base e size v n xs)
  (B:Nat) (vx:Value) (m:Nat) (news:List Value) (hx:a.eval x=vx) (hr:Sl w B size vx m news) (h1:∀u∈news,u.oneCell'=true)
  (h63:n+m≤maxLen) (hbytes:(n+m) * bytes≤140737488355328) (hbase:base≤w.heap.size)
  (h:∀v' w',w'.ownsRow base e size v' (n+m) (xs++news)→w.grownBy w' v.ownBlock→(v'.ownBlock=v.ownBlock∨v'.ownBlock=some w.heap.size)→K (a.put o.dst v') w'):
  if Region.wanted o (yielded ops a.tmps)=true then Oper.wp P o a w K Q else E:=by
 have b:Region.wanted o (yielded ops a.tmps)=true:=by simp[Region.wanted,hgd]
 rw[Xf b];exact zcv w s x t ho base e i z size bytes ht hi hz hsize hby hzs hsz v n xs hs hown B vx m news hx hr h1 h63 hbytes hbase h
end
def z8p(T size n:Nat)(xs:List Value)(w:World)(e:Ending)(w':World):Prop:=∃v,e=.returned v∧w'.ownsRow w.heap.size T size v n xs∧Fr [] w w'
theorem z05{w:World}{base e size n:Nat}{v:Value}{xs:List Value}(h:w.ownsRow base e size v n xs):∃A c,v=.slice A n c∧(A=none∨∃g,A=some ⟨g,0,none⟩)∧n≤c∧c≤maxLen:=by
 rcases h.2 with⟨rfl,rfl⟩|⟨g,cap,cur,hv,_,_,h1,h2,_⟩
 ·exact⟨none,0,rfl,.inl rfl,Xb _,Xt _⟩
 ·exact⟨_,cap,hv,.inr ⟨g,rfl⟩,h1,h2⟩
theorem z2z(l):∀u∈z03 l,u.oneCell'=true:=by
 intro u a;simp[z03] at a;obtain⟨s,_,rfl⟩:=a;rfl
theorem zb4(l:List (YY×YY)):∀u∈z0e l,u.oneCell'=true:=by
 intro u d;simp[z0e] at d;obtain⟨a,b,_,h⟩:=d;rcases h with rfl|rfl <;> rfl
theorem z5u(l:List (Int×YY)):∀u∈z06 l,u.oneCell'=true:=by
 intro u d;simp[z06] at d;obtain⟨a,b,_,h⟩:=d;rcases h with rfl|rfl <;> rfl
theorem z36(a b):z03 (a++b)=z03 a++z03 b:=by simp[z03]
theorem z7x(a b:List (YY×YY)):z0e (a++b)=z0e a++z0e b:=by simp[z0e]
theorem z3s(a b:List (Int×YY)):z06 (a++b)=z06 a++z06 b:=by simp[z06]
section
variable {w w':World} {g t base e k n cap:Nat} {cs xs:List Value}
theorem z14:∀(vs:List Value) (o:Nat) (w) (cs),Whole w g t cs→o+vs.length≤cs.length→Whole (w.setCells g o vs) g t (cs.take o++vs++cs.drop (o+vs.length))
 | [],o,w,cs,h,_=>by
  have:cs.take o++[]++cs.drop (o+([]:List Value).length)=cs:=by simp
  rw[this];exact h
 | v :: r,o,w,cs,h,hl=>by
  have b:o+(r.length+1)≤cs.length:=by simpa using hl
  have a:=z14 r (o+1) _ _ (h.set_ o v) (by simp;omega)
  have e:(cs.set o v).take (o+1)++r++(cs.set o v).drop (o+1+r.length)=cs.take o++v :: r++cs.drop (o+(v :: r).length):=by
   have f:(cs.set o v).take (o+1)=cs.take o++[v]:=by
    rw[List.set_eq_take_append_cons_drop,Xf (by omega)];rw[show o+1=(cs.take o).length+1 by rw[Xp];omega,List.take_length_add_append];simp
   have d:(cs.set o v).drop (o+1+r.length)=cs.drop (o+(v :: r).length):=by
    rw[List.drop_set_of_lt (by omega)];simp only[Xy];rw[show o+1+r.length=o+(r.length+1) by omega]
   rw[f,d];simp
  rw[e] at a;exact a
theorem z0h:∀(vs) (o:Nat) (w:World),w.grownBy (w.setCells g o vs) (some g)
 | [],o,w=>⟨rfl,rfl,rfl,Xb _,fun _ _ _=>rfl⟩
 | v :: r,o,w=>by
  have ih:=z0h r (o+1) (w.setCell ⟨g,o,none⟩ v);refine⟨ih.os,ih.tape,ih.output,by have:=ih.size;rw[show(w.setCell ⟨g,o,none⟩ v).heap.size=w.heap.size by simp[World.setCell]] at this;exact this,fun j hj hne=>?_⟩;have h1:=ih.block j (by simpa[World.setCell] using hj) hne;exact h1.trans (Below.heap_setCell w ⟨g,o,none⟩ v j (fun e=>hne (by simp[e])))
theorem z5k{r:Option Nat}(h:w.drew.grownBy w' r):w.grownBy w' r:=⟨h.os,h.tape,h.output,h.size,h.block⟩
theorem z97{r:Option Nat}(h:w.grownBy w' r):w.grownBy w'.drew r:=⟨h.os,h.tape,h.output,h.size,h.block⟩
theorem z98(w:World)(r:Option Nat):w.grownBy w r:=⟨rfl,rfl,rfl,Xb _,fun _ _ _=>rfl⟩
theorem z3j(h:w.ownsRow base e k (.slice (some ⟨g,0,none⟩) n cap) n xs):∃cur,Whole w g e cur∧cur.length=cap * k∧cur.take (n * k)=xs∧base≤g∧n≤cap∧cap≤maxLen∧xs.length=n * k:=by
 rcases h.2 with⟨h',_⟩|⟨g',cap',cur,h',hb,hg,hnc,hcm,hcs,ht⟩
 ·cases h'
 ·cases h';exact⟨cur.toList,by unfold Whole;simpa using hg,by simpa using hcs,ht,hb,hnc,hcm,h.1⟩
theorem z2j{cur:List Value}(hw:Whole w g e cur)(hl:cur.length=cap * k)(hb:base≤g)(hn:n≤cap)(hm:cap≤maxLen):w.ownsRow base e k (.slice (some ⟨g,0,none⟩) n cap) n (cur.take (n * k)):=by
 refine⟨?_,.inr ⟨g,cap,cur.toArray,rfl,hb,hw,hn,hm,by simpa using hl,by simp⟩⟩;rw[Xp,hl];have:n * k≤cap * k:=Yk _ hn;omega
theorem z0n(h:Whole w g t cs){o m:Nat}(ho:o+m≤cs.length):∀j,j < m→(w.cell? ⟨g,o+j,none⟩).isSome=true∧w.frozen? ⟨g,o+j,none⟩=false:=by
 intro j a;refine⟨?_,h.frozen _⟩;rw[h.cell,Xa (by omega)];rfl
section
variable {P:Program}
theorem z3l(w)(t e ty:TypeId)(z)(ht:P.underlying t=some (.slice e))(hv:∀w,(zeroValue e).run P w=.ok z w)(h1:∀u∈z.cells.toList,u.oneCell'=true)(b o n c:Nat)(hn:0 < n)
  (hc:∀j,j < n * z.cells.size→(w.cell? ⟨b,o+j,none⟩).isSome=true∧w.frozen? ⟨b,o+j,none⟩=false):
  (Builtin.clear_ #[t] ty #[.slice (some ⟨b,o,none⟩) n c]).run P w=.ok (.tuple #[]) (w.setCells b o (Builtin.zeroCells z.cells n).toList):=by
 have h:(Builtin.zeroCells z.cells n).toList.length=n * z.cells.size:=by simp[Builtin.zeroCells]
 have a:=run_storeCells_cells (P:=P) b o (Builtin.zeroCells z.cells n).toList 0 w (by rw[h];simpa using fun j g=>(hc j g).1) (by rw[h];simpa using fun j g=>(hc j g).2) (by
  intro v d;simp[Builtin.zeroCells] at d;obtain⟨i,hi,rfl⟩:=d
  have f:0 < z.cells.size:=by
   rcases Yq z.cells.size with h0|h0
   ·rw[h0] at hi;omega
   ·exact h0
  rw[getElem!_pos z.cells (i % z.cells.size) (Nat.mod_lt _ f)];exact h1 _ (by simp))
 simp only[Ye] at a;obtain⟨m,rfl⟩:∃m,n=m+1:=⟨n - 1,by omega⟩;simp[Builtin.clear_,run_underlying ht,hv,a]
end
theorem zts{i j:Nat}{zs:List Value}(h:w.ownsRow base e k (.slice (some ⟨g,0,none⟩) n cap) n xs)(hij:i < j)(hj:j≤n)(hz:zs.length=(j - i) * k):
  ∃cur,Whole (w.setCells g (i * k) (xs.drop (j * k))) g e cur∧cur.length=cap * k ∧
   ((w.setCells g (i * k) (xs.drop (j * k))).setCells g ((i+(n - j)) * k) zs).ownsRow base e k (.slice (some ⟨g,0,none⟩) (i+(n - j)) cap) (i+(n - j)) (xs.take (i * k)++xs.drop (j * k)):=by
 obtain⟨cur,u,d,s,t,x,z,b⟩:=z3j h;have a:(xs.drop (j * k)).length=(n - j) * k:=by rw[Xr,b,Nat.sub_mul]
 have A:i * k+(n - j) * k=(i+(n - j)) * k:=(Nat.add_mul _ _ _).symm;have r:(i+(n - j)) * k≤cap * k:=Yk _ (by omega);have D:(i+(n - j)) * k+(j - i) * k=n * k:=by rw[←Nat.add_mul];congr 1;omega
 have E:n * k≤cap * k:=Yk _ x;have p:=z14 (xs.drop (j * k)) (i * k) w cur u (by rw[a,d,A];exact r)
 have f:(cur.take (i * k)++xs.drop (j * k)++cur.drop (i * k+(xs.drop (j * k)).length)).length=cap * k:=by
  simp only[Xk,Xp,Xr,d] at a ⊢;omega
 refine⟨_,p,f,?_⟩;have y:=z14 zs ((i+(n - j)) * k) _ _ p (by rw[f,hz];omega)
 have C:∀c1:List Value,c1.length=cap * k→(c1.take ((i+(n - j)) * k)++zs++c1.drop ((i+(n - j)) * k+zs.length)).length=cap * k:=by
  intro c1 m;simp only[Xk,Xp,Xr,hz,m];omega
 have:=z2j (cap:=cap) (k:=k) (n:=i+(n - j)) (base:=base) y (C _ f) t (by omega) z
 have B:List.take ((i+(n - j)) * k) ((cur.take (i * k)++xs.drop (j * k)++cur.drop (i * k+(xs.drop (j * k)).length)).take ((i+(n - j)) * k)++zs++(cur.take (i * k)++xs.drop (j * k)++cur.drop (i * k+(xs.drop (j * k)).length)).drop ((i+(n - j)) * k+zs.length))=xs.take (i * k)++xs.drop (j * k):=by
  have F:(cur.take (i * k)++xs.drop (j * k)).length=(i+(n - j)) * k:=by
   rw[Xk,a,Xp,d];omega
  rw[Yi (cur.take _),←Yi (cur.take (i * k))];rw[Yz (l₁:=cur.take (i * k)++xs.drop (j * k)) (by omega)];rw[Xw (l:=cur.take (i * k)++xs.drop (j * k)) (by omega)];rw[Yi,Yz (by omega),Xw (by omega)];congr 1;rw[←s,Vm,Up (by have:=Yk k (show i≤n by omega);omega)]
 rw[B] at this;exact this
end
end
structure Kept{α:Type}(p:α→Bool)(l d:List α)(i j:Nat):Prop where
 len:d.length=l.length
 ahead:d.take i=(l.take j).filter fun x=>!p x
 behind:∀t,j≤t→d[t]? = l[t]?
 lt:i < j
 le:j≤l.length
theorem Kept.start{α:Type}{p:α→Bool}{l:List α}{k:Nat}{s:α}(h:∀(j:Nat) t,j < k→l[j]? = some t→p t=false)(hk:l[k]? = some s)(hs:p s=true):Kept p l l k (k+1):=by
 have e:k < l.length:=(Xe.1 hk).1;refine⟨rfl,?_,fun _ _=>rfl,by omega,by omega⟩;rw[Xz,hk,Uo,Vb,Uy.2]
 ·simp[hs]
 ·intro a d;obtain⟨j,b⟩:=Yd d;rw[Un] at b;split at b
  ·rw[h j a (by assumption) b];rfl
  ·cases b
theorem Kept.keep{α:Type}{p:α→Bool}{l d:List α}{i j:Nat}{s:α}(h:Kept p l d i j)(hj:l[j]? = some s)(hs:p s=false):Kept p l (d.set i s) (i+1) (j+1):=by
 have a:j < l.length:=(Xe.1 hj).1;have:=h.lt;have:=h.len;refine⟨by simp[h.len],?_,fun t b=>?_,by omega,by omega⟩
 ·rw[Xz,Ut (by omega),Uo,List.take_set_of_le (Xb _),h.ahead,Xz,hj,Uo,Vb];simp[hs]
 ·rw[Um (by omega)];exact h.behind t (by omega)
theorem Kept.skip{α:Type}{p:α→Bool}{l d:List α}{i j:Nat}{s:α}(h:Kept p l d i j)(hj:l[j]? = some s)(hs:p s=true):Kept p l d i (j+1):=by
 have a:j < l.length:=(Xe.1 hj).1;have:=h.lt;refine⟨h.len,?_,fun t b=>h.behind t (by omega),by omega,by omega⟩;rw[h.ahead,Xz,hj,Uo,Vb];simp[hs]
theorem Kept.done{α:Type}{p:α→Bool}{l d:List α}{i:Nat}(h:Kept p l d i l.length):d.take i=l.filter fun x=>!p x:=by
 have:=h.ahead;rwa[Ym] at this
theorem z7n{α:Type}(p:α→Bool)(l:List α):(z3c p l=-1∧(l.filter fun x=>!p x)=l)∨∃(k:Nat) (s:α),z3c p l=k∧k < l.length∧Kept p l l k (k+1):=by
 cases hf:l.findIdx? p with
 | none=>
  refine .inl ⟨by unfold z3c;rw[hf],?_⟩;rw[Uy];rw[Vh] at hf;intro a n;simp[hf a n]
 | some k=>
  rw[Vd] at hf;obtain⟨b,m,d⟩:=hf;refine .inr ⟨k,l[k],?_,b,Kept.start (s:=l[k]) (fun j t g h=>?_) (Xa b) m⟩
  ·exact z3i (fun j t g h=>by
    have:=d j g;obtain⟨f,e⟩:=Xe.1 h;rw[←e];simpa using this) (Xa b) m
  ·have:=d j g;obtain⟨f,e⟩:=Xe.1 h;rw[←e];simpa using this
theorem z1b{P:Program}{f:FuncId}{fn:Func}{c:Code}(hf:P.funcs[f]? = some fn)(hn:(fn.name == "runtime.NumGoroutine")=false)(hb:fn.body=some c)(args:Array Value)(w):(callFunc f args).run P w=.ok (.enter f args) w:=by
 have a:fn.name ≠ "runtime.NumGoroutine" := by simpa using hn
 simp[callFunc,hf,a,hb,mark]
def z1w:Value→List Nat
 | .slice (some a) _ _=>[a.block]
 | _=>[]
theorem z1u{w w':World}{v:Value}(h:w.grownBy w' v.ownBlock):Fr (z1w v) w w':=by
 refine(Fr.refl _ w).grown h (fun k a=>.inl ?_);unfold Value.ownBlock at a;unfold z1w;split at a
 ·cases a;simp
 ·cases a
theorem z19{w:World}{base e size n:Nat}{v:Value}{xs:List Value}(h:w.ownsRow base e size v n xs){k:Nat}(hk:k∈z1w v):base≤k:=by
 unfold z1w at hk;split at hk
 ·simp at hk;subst hk;exact(h.lt _ rfl).1
 ·cases hk
theorem z01{w w':World}{S:List Nat}(h:Fr S w.drew w'):Fr S w w':=⟨h.os,h.tape,h.output,h.size,h.block⟩
theorem zcd(l:YX)(i:Nat)(s):z03 (l.set i s)=(z03 l).set i (.string s):=by simp[z03,List.map_set]
theorem zc4:∀(l:List (YY×YY)) (i:Nat) (s:YY×YY),z0e (l.set i s)=((z0e l).set (i * 2) (.string s.1)).set (i * 2+1) (.string s.2)
 | [],i,s=>rfl
 | q :: l,0,s=>rfl
 | q :: l,i+1,s=>by
  have ih:=zc4 l i s;rw[Xm];show [Value.string q.1,.string q.2]++z0e (l.set i s)=(([Value.string q.1,.string q.2]++z0e l).set ((i+1) * 2) _).set ((i+1) * 2+1) _;rw[ih,show(i+1) * 2=i * 2+1+1 by omega];rfl
theorem zfg:∀(l:List (Int×YY)) (i:Nat) (s:Int×YY),z06 (l.set i s)=((z06 l).set (i * 2) (.int .i64 s.1)).set (i * 2+1) (.string s.2)
 | [],i,s=>rfl
 | q :: l,0,s=>rfl
 | q :: l,i+1,s=>by
  have ih:=zfg l i s;rw[Xm];show [Value.int .i64 q.1,.string q.2]++z06 (l.set i s)=(([Value.int .i64 q.1,.string q.2]++z06 l).set ((i+1) * 2) _).set ((i+1) * 2+1) _;rw[ih,show(i+1) * 2=i * 2+1+1 by omega];rfl
theorem z7z:∀(l:List (YY×YY)) (i:Nat),(z0e l).take (i * 2)=z0e (l.take i)
 | [],i=>by simp[z0e]
 | q :: l,0=>rfl
 | q :: l,i+1=>by
  have ih:=z7z l i;rw[Jn,show(i+1) * 2=i * 2+1+1 by omega];show([Value.string q.1,.string q.2]++z0e l).take (i * 2+1+1)=[Value.string q.1,.string q.2]++z0e (l.take i);rw[←ih];rfl
theorem z47:∀(l:List (Int×YY)) (i:Nat),(z06 l).take (i * 2)=z06 (l.take i)
 | [],i=>by simp[z06]
 | q :: l,0=>rfl
 | q :: l,i+1=>by
  have ih:=z47 l i;rw[Jn,show(i+1) * 2=i * 2+1+1 by omega];show([Value.int .i64 q.1,.string q.2]++z06 l).take (i * 2+1+1)=[Value.int .i64 q.1,.string q.2]++z06 (l.take i);rw[←ih];rfl
theorem zny(l)(i:Nat):(z03 l).take (i * 1)=z03 (l.take i):=by simp[z03,Kn]
end Go.Proofs.YtnmoajaelmimnaaGreatDoor
