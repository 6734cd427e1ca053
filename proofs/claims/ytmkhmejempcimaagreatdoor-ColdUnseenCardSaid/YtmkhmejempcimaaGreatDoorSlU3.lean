/- Contracts; no condition but each theorem's own. -/
import Derived.Test.YtmkhmejempcimaaGreatDoorSlU1
import Derived.Carry
import Derived.Deep.RegionWith
import Derived.Maps.Own
import Derived.Maps.OwnOps
import Derived.Maps.Views
import Derived.StringKeys
import Derived.WalkArith
set_option linter.unusedVariables false
set_option linter.unusedSimpArgs false
set_option maxHeartbeats 8000000
set_option maxRecDepth 100000
namespace Go.Proofs.YtmkhmejempcimaaGreatDoor
open Lib (hid)
open Go.Proofs.Tryz (prog)
open Go.RowKit
theorem zd2(l:List (ByteArray×ByteArray))(A:Option Addr)(c B:Nat)(w:World)(hl:l.length≤281474976710656)(hB:B≤w.heap.size)(hsl:Sl w B 2 (.slice A l.length c) l.length (z0t l)):
  Calls prog 90 #[.slice A l.length c,.func (Fn.func 91) #[] #[]] w fun e w'=>e=.returned (.bool (rises ltP l))∧Fr [] w w':=by
 have HS:=hid hsl;clear hsl;go_enter Tryz.func90,Tryz.ntmps90;go_wp2;go_loopg [5] l.length (fun g i wr=>∃(m:Nat),g=l.length - m∧i=.int .i64 ((m:Int)+1)∧m≤l.length∧rises ltP (l.drop m)=rises ltP l∧Fr [] w wr)
 case atStart=>exact⟨0,rfl,rfl,Nat.zero_le _,rfl,Fr.refl _ _⟩
 case round=>
  obtain⟨m,rfl,rfl,hm,hR,hf⟩:=hrel;by_cases hlt:m+1 < l.length
  ·obtain⟨b,off,rfl,hb,hc,hmx,hcell⟩:=HS.out.at_ (by omega);obtain⟨s,hs⟩:∃s,l[m]? = some s:=⟨_,List.getElem?_eq_getElem (by omega)⟩;obtain⟨t,ht⟩:∃t,l[m+1]? = some t:=⟨_,List.getElem?_eq_getElem hlt⟩;have hc1:wr.cell? ⟨b,off+2 * m,none⟩=some (.string s.1):=hf.cell (hcell _ _ (z0j l m s hs).1) (by simp);have hc2:wr.cell? ⟨b,off+2 * m+1,none⟩=some (.string s.2):=hf.cell (hcell _ _ (z0j l m s hs).2) (by simp);have hc3:wr.cell? ⟨b,off+2 * (m+1),none⟩=some (.string t.1):=hf.cell (hcell _ _ (z0j l (m+1) t ht).1) (by simp);have hc4:wr.cell? ⟨b,off+2 * (m+1)+1,none⟩=some (.string t.2):=hf.cell (hcell _ _ (z0j l (m+1) t ht).2) (by simp);rw[Nat.mul_comm 2 m] at hc1 hc2;rw[Nat.mul_comm 2 (m+1)] at hc3 hc4;rw[z6n hs ht] at hR;have HC:=hid (fun W=>zfx s t W);clear hcell hs ht;have wr1:IntKind.i64.wrap ((m:Int)+1)=(m:Int)+1:=IntWalk.i64_in _ (by omega);have wr2:IntKind.i64.wrap (m:Int)=(m:Int):=IntWalk.i64_in _ (by omega);by_cases hq:z36 s.1 t.1 < 0
   ·rw[show ltP s t=true from decide_eq_true hq,Bool.true_and] at hR;have HR:=hid hR;clear hR;go_wp2
    go_region_with (refine(HC.out _).mono ?_;rintro e w2 ⟨rfl,f2⟩)
    all_goals
     go_wp2;go_roundg (l.length - (m+1))
     case measure=>omega
     case rel=>exact⟨m+1,rfl,rfl,by omega,HR.out,hf.step (T:=[]) ⟨f2.os,f2.tape,f2.output,f2.size,f2.block⟩ (by simp)⟩
   ·rw[show ltP s t=false from decide_eq_false hq,Bool.false_and] at hR;have HR:=hid hR;clear hR;go_wp2
    go_region_with (refine(HC.out _).mono ?_;rintro e w2 ⟨rfl,f2⟩)
    all_goals
     go_wp2;go_ret;rw[←HR.out];exact⟨rfl,hf.step (T:=[]) ⟨f2.os,f2.tape,f2.output,f2.size,f2.block⟩ (by simp)⟩
  ·rw[z8x (by omega)] at hR;have HR:=hid hR;clear hR;go_wp2;go_ret;rw[←HR.out];exact⟨rfl,hf⟩
theorem zdn(l:List (Int×ByteArray))(A:Option Addr)(c B:Nat)(w:World)(hl:l.length≤281474976710656)(hI:∀p∈l,z17 p.1=true)(hB:B≤w.heap.size)(hsl:Sl w B 2 (.slice A l.length c) l.length (z0h l)):
  Calls prog 117 #[.slice A l.length c,.func (Fn.func 118) #[] #[]] w fun e w'=>e=.returned (.bool (rises ltC l))∧Fr [] w w':=by
 have HS:=hid hsl;clear hsl;go_enter Tryz.func117,Tryz.ntmps117;go_wp2;go_loopg [5] l.length (fun g i wr=>∃(m:Nat),g=l.length - m∧i=.int .i64 ((m:Int)+1)∧m≤l.length∧rises ltC (l.drop m)=rises ltC l∧Fr [] w wr)
 case atStart=>exact⟨0,rfl,rfl,Nat.zero_le _,rfl,Fr.refl _ _⟩
 case round=>
  obtain⟨m,rfl,rfl,hm,hR,hf⟩:=hrel;by_cases hlt:m+1 < l.length
  ·obtain⟨b,off,rfl,hb,hc,hmx,hcell⟩:=HS.out.at_ (by omega);obtain⟨s,hs⟩:∃s,l[m]? = some s:=⟨_,List.getElem?_eq_getElem (by omega)⟩;obtain⟨t,ht⟩:∃t,l[m+1]? = some t:=⟨_,List.getElem?_eq_getElem hlt⟩;have hc1:wr.cell? ⟨b,off+2 * m,none⟩=some (.int .i64 s.1):=hf.cell (hcell _ _ (z0f l m s hs).1) (by simp);have hc2:wr.cell? ⟨b,off+2 * m+1,none⟩=some (.string s.2):=hf.cell (hcell _ _ (z0f l m s hs).2) (by simp);have hc3:wr.cell? ⟨b,off+2 * (m+1),none⟩=some (.int .i64 t.1):=hf.cell (hcell _ _ (z0f l (m+1) t ht).1) (by simp);have hc4:wr.cell? ⟨b,off+2 * (m+1)+1,none⟩=some (.string t.2):=hf.cell (hcell _ _ (z0f l (m+1) t ht).2) (by simp);rw[Nat.mul_comm 2 m] at hc1 hc2;rw[Nat.mul_comm 2 (m+1)] at hc3 hc4;rw[z6n hs ht] at hR;have HC:=hid (fun W=>zh7 s t W (hI s (List.mem_of_getElem? hs)) (hI t (List.mem_of_getElem? ht)));clear hcell hs ht;have wr1:IntKind.i64.wrap ((m:Int)+1)=(m:Int)+1:=IntWalk.i64_in _ (by omega);have wr2:IntKind.i64.wrap (m:Int)=(m:Int):=IntWalk.i64_in _ (by omega);by_cases hq:zmm s t < 0
   ·rw[show ltC s t=true from decide_eq_true hq,Bool.true_and] at hR;have HR:=hid hR;clear hR;go_wp2
    go_region_with (refine(HC.out _).mono ?_;rintro e w2 ⟨rfl,f2⟩)
    all_goals
     go_wp2;go_roundg (l.length - (m+1))
     case measure=>omega
     case rel=>exact⟨m+1,rfl,rfl,by omega,HR.out,hf.step (T:=[]) ⟨f2.os,f2.tape,f2.output,f2.size,f2.block⟩ (by simp)⟩
   ·rw[show ltC s t=false from decide_eq_false hq,Bool.false_and] at hR;have HR:=hid hR;clear hR;go_wp2
    go_region_with (refine(HC.out _).mono ?_;rintro e w2 ⟨rfl,f2⟩)
    all_goals
     go_wp2;go_ret;rw[←HR.out];exact⟨rfl,hf.step (T:=[]) ⟨f2.os,f2.tape,f2.output,f2.size,f2.block⟩ (by simp)⟩
  ·rw[z8x (by omega)] at hR;have HR:=hid hR;clear hR;go_wp2;go_ret;rw[←HR.out];exact⟨rfl,hf⟩
end Go.Proofs.YtmkhmejempcimaaGreatDoor
namespace Go.Proofs.YtmkhmejempcimaaGreatDoor
open Lib (hid)
open Go.Proofs.Tryz (prog)
def z16(l:List (Int×ByteArray)):Int:=
 if l.any (fun p=>!z17 p.1) then 3 else if ¬(l.map (·.2)).Nodup then 6 else if rises ltC l then 0 else 4
def z08(x:Itm):Int:=
 if ¬(1≤x.kind∧x.kind≤5) then 7
 else if z4o x=false then 1
 else if x.kind=1 then (if 60 < x.text.size then 2 else 0)
 else if many x=0 then 5
 else if 24 < many x∨zai x=true then 2
 else if (x.kind=3∧rises ltS x.list=false)∨(x.kind=4∧rises ltP x.pairs=false) then 4
 else z16 x.scores
end Go.Proofs.YtmkhmejempcimaaGreatDoor
namespace Go.Proofs.YtmkhmejempcimaaGreatDoor
open Lib (hid)
open Go.Proofs.Tryz (prog)
open Go.RowKit Go.WideMaps Go.Maps
def often(ms:List ByteArray)(s:ByteArray):Nat:=ms.countP (fun t=>decide (t=s))
structure Counts{H:Type}(D:DataW H)(ms:List ByteArray):Prop where
 isMap:IsMap D
 at_:∀s:ByteArray,D.atKey (.string s.data.toList) (.lit (.int .i64 0))=.lit (.int .i64 (often ms s:Nat))
theorem Counts.nil{H:Type}:Counts (H:=H) (.map []) []:=⟨⟨[],rfl⟩,fun s=>rfl⟩
theorem Counts.step{H:Type}{D:DataW H}{ms:List ByteArray}{s:ByteArray}{c:Int}(h:Counts D ms)(hc:D.atKey (.string s.data.toList) (.lit (.int .i64 0))=.lit (.int .i64 c)):
  c=(often ms s:Nat)∧Counts (D.put (.string s.data.toList) (.lit (.int .i64 (c+1)))) (ms++[s]):=by
 have e:c=(often ms s:Nat):=by
  rw[h.at_ s] at hc;injection hc with hc
  injection hc with _ hc
  exact hc.symm
 refine⟨e,?_,fun t=>?_⟩
 ·obtain⟨es,rfl⟩:=h.isMap;exact⟨_,rfl⟩
 ·by_cases ht:t=s
  ·subst ht;rw[atKey_put_same h.isMap (by trivial),e];simp[often,List.countP_append]
  ·rw[atKey_put_other (fun he=>ht (by
    injection he with he
    cases t;cases s;congr 1;exact Array.toList_inj.1 he)),h.at_ t]
   simp[often,List.countP_append,Ne.symm ht]
theorem zid{ms:List ByteArray}{s:ByteArray}:0 < often ms s↔s∈ms:=by
 unfold often;rw[List.countP_pos_iff];constructor
 ·rintro⟨t,ht,h⟩;rw[←of_decide_eq_true h];exact ht
 ·intro h;exact⟨s,h,decide_eq_true rfl⟩
theorem zfz{ms:List ByteArray}{s:ByteArray}:(ms++[s]).Nodup↔ms.Nodup∧¬0 < often ms s:=by
 rw[zid,List.nodup_append];constructor
 ·rintro⟨h1,_,h3⟩;exact⟨h1,fun hm=>h3 s hm s (by simp) rfl⟩
 ·rintro⟨h1,h2⟩;refine⟨h1,by simp,fun a ha b hb=>?_⟩;rw[List.mem_singleton.1 hb];rintro rfl;exact h2 ha
end Go.Proofs.YtmkhmejempcimaaGreatDoor
namespace Go.Proofs.YtmkhmejempcimaaGreatDoor
open Lib (hid)
open Go.Proofs.Tryz (prog)
def z11(n:Nat):UInt8:=UInt8.ofNat n
def z15(s:ByteArray):List UInt8:=z11 s.size :: s.data.toList
def z2i(n:Nat):List UInt8:=[z11 (n / 16777216),z11 (n / 65536),z11 (n / 256),z11 n]
def z18(p:ByteArray×ByteArray):List UInt8:=z15 p.1++z15 p.2
def z13(p:Int×ByteArray):List UInt8:=z2i (p.1+999999999).toNat++z15 p.2
def z0w(x:Itm):List UInt8:=
 z11 x.kind.toNat :: (if x.kind=1 then x.text.data.toList else z11 (many x) :: (x.list.flatMap z15++(x.pairs.flatMap z18++x.scores.flatMap z13)))
def zc3(n:Nat)(s:ByteArray):Option (ByteArray×ByteArray):=if s.size < n then none else some (s.extract 0 n,s.extract n s.size)
def z84(s:ByteArray):Option (Nat×ByteArray):=if s.size < 1 then none else some (z0d s 0,s.extract 1 s.size)
def z87(s:ByteArray):Option (Nat×ByteArray):=
 if s.size < 4 then none else some (((z0d s 0 * 256+z0d s 1) * 256+z0d s 2) * 256+z0d s 3,s.extract 4 s.size)
def z28(s:ByteArray):Option (ByteArray×ByteArray):=(z84 s).bind fun p=>zc3 p.1 p.2
def z2l(k:Int):Itm:=⟨k,ByteArray.empty,[],[],[]⟩
def z2u(x:Itm)(s:ByteArray):Option (Itm×ByteArray):=
 if x.kind=4 then (z28 s).bind fun p=>(z28 p.2).map fun q=>({ x with pairs:=x.pairs++[(p.1,q.1)] },q.2)
 else if x.kind=5 then (z87 s).bind fun p=>(z28 p.2).map fun q=>({ x with scores:=x.scores++[((p.1:Int) - 999999999,q.1)] },q.2)
 else (z28 s).map fun p=>({ x with list:=x.list++[p.1] },p.2)
def z1e:Nat→Itm→ByteArray→Option (Itm×ByteArray)
 | 0,x,s=>some (x,s)
 | n+1,x,s=>(z2u x s).bind fun p=>z1e n p.1 p.2
def z22(s:ByteArray):Option Itm:=
 (z84 s).bind fun p=>
  if p.1=1 then some { z2l 1 with text:=p.2 }
  else if 2≤p.1∧p.1≤5 then (z84 p.2).bind fun q=>(z1e q.1 (z2l p.1) q.2).bind fun r=>if r.2.size=0 then some r.1 else none
  else none
def z0u(s:ByteArray):Int:=match z22 s with
 | none=>1
 | some x=>z08 x
def z06(s:ByteArray):Itm:=match z22 s with
 | none=>z2l 0
 | some x=>if z08 x=0 then x else z2l 0
end Go.Proofs.YtmkhmejempcimaaGreatDoor
namespace Go.Proofs.YtmkhmejempcimaaGreatDoor
open Lib (hid)
open Go.Proofs.Tryz (prog)
open Go.RowKit Go.WideMaps Go.Maps
theorem zb6:Keyed prog 9:=string_keyed Tryz.underlying9
theorem zdl(w:World):(zeroValue 3).run prog w=.ok (.int .i64 0) w:=by kernel_rfl
theorem z92{l:List (Int×ByteArray)}{k:Nat}{p:Int×ByteArray}(hk:l[k]? = some p)(h:z17 p.1=false):z16 l=3:=by
 unfold z16;rw[if_pos (List.any_eq_true.2 ⟨p,List.mem_of_getElem? hk,by simp[h]⟩)]
theorem zhu{l:List (Int×ByteArray)}(h:∀p∈l,z17 p.1=true):(l.any fun p=>!z17 p.1)=false:=by
 rw[List.any_eq_false];intro p hp;simp[h p hp]
theorem z7d{l:List (Int×ByteArray)}(h:∀p∈l,z17 p.1=true)(h2:¬(l.map (·.2)).Nodup):z16 l=6:=by
 unfold z16;rw[if_neg (by rw[zhu h];decide),if_pos h2]
theorem z7h{l:List (Int×ByteArray)}(h:∀p∈l,z17 p.1=true)(h2:(l.map (·.2)).Nodup):z16 l=if rises ltC l then 0 else 4:=by
 unfold z16;rw[if_neg (by rw[zhu h];decide),if_neg (fun h3=>h3 h2)]
theorem ziu{l:List (Int×ByteArray)}{k:Nat}(hk:l.length≤k)(h:∀(j:Nat) p,j < k→l[j]? = some p→z17 p.1=true):∀p∈l,z17 p.1=true:=by
 intro p hp;obtain⟨j,hj⟩:=List.getElem?_of_mem hp;exact h j p (by have:=(List.getElem?_eq_some_iff.1 hj).1;omega) hj
theorem z7c{l:List (Int×ByteArray)}{k:Nat}{p:Int×ByteArray}(hk:l[k]? = some p):(l.take (k+1)).map (·.2)=(l.take k).map (·.2)++[p.2]:=by
 rw[List.take_add_one,hk];simp
structure Counted(l:List (Int×ByteArray))(k B:Nat)(D:DataW Unit)(t:Bool)(wr:World):Prop where
 own:wr.ownsMap prog 9 (plainElem prog 3) B k D
 counts:Counts D ((l.take k).map (·.2))
 twice:t=true↔¬((l.take k).map (·.2)).Nodup
 ints:∀(j:Nat) p,j < k→l[j]? = some p→z17 p.1=true
theorem zju{l:List (Int×ByteArray)}{k:Nat}{p:Int×ByteArray}(hk:l[k]? = some p)(hi:z17 p.1=true)(h:∀(j:Nat) p,j < k→l[j]? = some p→z17 p.1=true):
  ∀(j:Nat) p,j < k+1→l[j]? = some p→z17 p.1=true:=by
 intro j q hj hq;rcases Nat.lt_or_ge j k with h1|h1
 ·exact h j q h1 hq
 ·have e:j=k:=by omega
  subst e;rw[hk] at hq;cases hq;exact hi
theorem Counted.bounds{l:List (Int×ByteArray)}{k B:Nat}{D:DataW Unit}{t:Bool}{wr:World}{s:ByteArray}{c:Int}(h:Counted l k B D t wr)
  (hc:D.atKey (.string s.data.toList) (.lit (.int .i64 0))=.lit (.int .i64 c)):0≤c∧c≤k:=by
 have hs:=h.counts.step hc
 have hle:often ((l.take k).map (·.2)) s≤k:=by
  unfold often;refine Nat.le_trans List.countP_le_length ?_;rw[List.length_map];exact List.length_take_le _ _
 omega
theorem Counted.step{l:List (Int×ByteArray)}{k B:Nat}{D:DataW Unit}{t:Bool}{wr w1:World}{p:Int×ByteArray}{c:Int}(h:Counted l k B D t wr)(hk:l[k]? = some p)(hi:z17 p.1=true)
  (hc:D.atKey (.string p.2.data.toList) (.lit (.int .i64 0))=.lit (.int .i64 c)) (own:w1.ownsMap prog 9 (plainElem prog 3) B (k+1) (D.put (.string p.2.data.toList) (.lit (.int .i64 (c+1))))):
  0≤c∧c≤k∧Counted l (k+1) B (D.put (.string p.2.data.toList) (.lit (.int .i64 (c+1)))) (t||decide (1 < c+1)) w1:=by
 have hs:=h.counts.step hc
 have hle:often ((l.take k).map (·.2)) p.2≤k:=by
  unfold often;refine Nat.le_trans List.countP_le_length ?_;rw[List.length_map];exact List.length_take_le _ _
 refine⟨by omega,by omega,own,by rw[z7c hk];exact hs.2,?_,zju hk hi h.ints⟩;rw[z7c hk,zfz];have:=h.twice;have e:(1 < c+1)↔0 < often ((l.take k).map (·.2)) p.2:=by omega
 rw[Bool.or_eq_true,decide_eq_true_eq,e,this];constructor
 ·rintro(h1|h1) ⟨h2,h3⟩
  ·exact h1 h2
  ·exact h3 h1
 ·intro h1;by_cases h2:((l.take k).map (·.2)).Nodup
  ·exact .inr (Decidable.not_not.1 fun h3=>h1 ⟨h2,h3⟩)
  ·exact .inl h2
theorem Counted.again{l:List (Int×ByteArray)}{k B:Nat}{D:DataW Unit}{t:Bool}{wr w1:World}{s:ByteArray}{c:Int}(h:Counted l k B D t wr)
  (hc:D.atKey (.string s.data.toList) (.lit (.int .i64 0))=.lit (.int .i64 c)) (own:w1.ownsMap prog 9 (plainElem prog 3) B (k+1) (D.put (.string s.data.toList) (.lit (.int .i64 (c+1)))))
  (hkey:keyOf prog 9 (.string s)=some (.string s.data.toList)):
  (Instr.lookup 172 (.map (some B)) (.string s) false).run prog w1=.ok (.int .i64 (c+1)) w1:=by
 obtain⟨c2,hrun,hat,_⟩:=own.lookup_int zb6 Tryz.underlying172 Tryz.underlying3 (zdl _) hkey;rw[atKey_put_same h.counts.isMap (by trivial)] at hat;injection hat with hat
 injection hat with _ hat
 rw[hrun,hat]
theorem z93(l:List (Int×ByteArray))(A:Option Addr)(c B:Nat)(w:World)(hl:l.length≤281474976710656)(hsm:∀p∈l,p.2.size≤281474976710656)(hB:B≤w.heap.size)(hsl:Sl w B 2 (.slice A l.length c) l.length (z0h l)):
  Calls prog 92 #[.slice A l.length c] w fun e w'=>e=.returned (.int .i64 (z16 l))∧Fr [] w w':=by
 have hmm:=@run_makeMap prog;have HS:=hid hsl;have HM:=hid hsm;clear hsl hsm;go_enter Tryz.func92,Tryz.ntmps92;go_wp2;go_loopg [4,10] l.length (fun g tw i wr=>∃(k:Nat) (D:DataW Unit) (t:Bool),g=l.length - k∧k≤l.length∧i=.int .i64 k∧tw=.bool t∧Counted l k w.heap.size D t wr∧Fr [] w wr)
 case atStart=>exact⟨0,.map [],false,rfl,Nat.zero_le _,rfl,rfl,⟨World.ownsMap_made _ _ _ _,Counts.nil,by simp,fun j p hj=>absurd hj (Nat.not_lt_zero _)⟩,(Fr.refl [] w).alloc _⟩
 case round=>
  clear hmm;obtain⟨k,D,t,rfl,hk,rfl,rfl,hct,hf⟩:=hrel;by_cases hlt:k < l.length
  ·obtain⟨b,off,rfl,hb,hc,hm,hcell⟩:=HS.out.at_ (by omega);obtain⟨p,hp⟩:∃p,l[k]? = some p:=⟨_,List.getElem?_eq_getElem hlt⟩;have hc1:wr.cell? ⟨b,off+2 * k,none⟩=some (.int .i64 p.1):=hf.cell (hcell _ _ (z0f l k p hp).1) (by simp);have hc2:wr.cell? ⟨b,off+2 * k+1,none⟩=some (.string p.2):=hf.cell (hcell _ _ (z0f l k p hp).2) (by simp);rw[Nat.mul_comm 2 k] at hc1 hc2;have I:=hid (fun W=>z89 p.1 W);by_cases hi:z17 p.1=true
   ·rw[hi] at I;have hsz:=HM.out p (List.mem_of_getElem? hp);have hkey:keyOf prog 9 (.string p.2)=some (.string p.2.data.toList):=keyOf_string_mk Tryz.underlying9 (by unfold maxLen;omega);have HK:=hid hkey;have HC:=hid hct;have HP:=hid hp;have HI:=hid hi;clear hcell hkey hct hp hi;cases t
    ·go_wp2_with fail;refine(I.out _).mono ?_;rintro e w1 ⟨rfl,rfl⟩;go_wp2_with (at_lookup;refine wpList_lookup_own_int _ rfl _ _ 172 rfl 9 3 .i64 zb6 Tryz.underlying172 Tryz.underlying3 (zdl _) w.heap.size k D rfl (HC.out.own.alloc _) _ _ rfl HK.out ?_);intro c hat hwc;obtain⟨hq0,hqk⟩:=HC.out.bounds hat;go_wp2_with (at_mapUpdate;go_must (refine wpList_mapUpdate_own _ rfl _ _ _ 172 rfl 9 3 zb6 Tryz.underlying172 _ w.heap.size k _ rfl (HC.out.own.alloc _) (by unfold maxLen;omega) _ _ _ rfl rfl HK.out _ [] (plainElem_int Tryz.underlying3 (WalkArith.wf_i64 (by omega))) ?_));intro w1 hown1 hgrow1;have hs:=HC.out.step HP.out HI.out hat hown1;have hc2:=HC.out.again hat hown1 HK.out;obtain⟨_,_,hs⟩:=hs;have W0:Whole (wr.alloc (.cells #[.int .i64 p.1,.string p.2] 110)) wr.heap.size 110 [.int .i64 p.1,.string p.2]:=Whole.new wr _ _;have hbl:w.heap.size < wr.heap.size:=HC.out.own.lt;have d1:w1.cell? ⟨wr.heap.size,1,none⟩=some (.string p.2):=(W0.grown hgrow1 (by simp;omega)).cell 1;have F1:Fr [] w w1:=(hf.alloc _).grown hgrow1 (by intro k hk;cases hk;exact .inr (Nat.le_refl _));have HS2:=hid hs;clear hs hown1 hgrow1 W0 hat hwc hf;by_cases h1:1 < c+1
     ·rw[decide_eq_true h1] at HS2;go_wp2;go_roundg (l.length - (k+1))
      case measure=>omega
      case rel=>exact⟨k+1,_,true,rfl,by omega,rfl,rfl,HS2.out,F1⟩
     ·rw[decide_eq_false h1] at HS2;go_wp2;go_roundg (l.length - (k+1))
      case measure=>omega
      case rel=>exact⟨k+1,_,false,rfl,by omega,rfl,rfl,HS2.out,F1⟩
    ·go_wp2_with fail;refine(I.out _).mono ?_;rintro e w1 ⟨rfl,rfl⟩;go_wp2_with (at_lookup;refine wpList_lookup_own_int _ rfl _ _ 172 rfl 9 3 .i64 zb6 Tryz.underlying172 Tryz.underlying3 (zdl _) w.heap.size k D rfl (HC.out.own.alloc _) _ _ rfl HK.out ?_);intro c hat hwc;obtain⟨hq0,hqk⟩:=HC.out.bounds hat;go_wp2_with (at_mapUpdate;go_must (refine wpList_mapUpdate_own _ rfl _ _ _ 172 rfl 9 3 zb6 Tryz.underlying172 _ w.heap.size k _ rfl (HC.out.own.alloc _) (by unfold maxLen;omega) _ _ _ rfl rfl HK.out _ [] (plainElem_int Tryz.underlying3 (WalkArith.wf_i64 (by omega))) ?_));intro w1 hown1 hgrow1;have hs:=HC.out.step HP.out HI.out hat hown1;obtain⟨_,_,hs⟩:=hs;rw[Bool.true_or] at hs;have F1:Fr [] w w1:=(hf.alloc _).grown hgrow1 (by intro k hk;cases hk;exact .inr (Nat.le_refl _));have HS2:=hid hs;clear hs hown1 hgrow1 hat hwc hf;go_wp2;go_roundg (l.length - (k+1))
     case measure=>omega
     case rel=>exact⟨k+1,_,true,rfl,by omega,rfl,rfl,HS2.out,F1⟩
   ·have hi':z17 p.1=false:=by simpa using hi
    rw[hi'] at I;have E:=hid (z92 hp hi');clear hcell hct hp hi hi';go_wp2_with fail;refine(I.out _).mono ?_;rintro e w1 ⟨rfl,rfl⟩;go_wp2;go_ret;rw[E.out];exact⟨rfl,hf.alloc _⟩
  ·have hall:=ziu (by omega) hct.ints;have ht:=hct.twice;rw[List.take_of_length_le (by omega)] at ht;have R:=hid (fun W (hW:Fr [] w W)=>zdn l A c B W hl hall (Nat.le_trans hB hW.size) (HS.out.fr hW hB (by simp)));cases t
   ·have hnd:(l.map (·.2)).Nodup:=Decidable.not_not.1 fun h=>by have:=ht.2 h;cases this
    have E:=hid (z7h hall hnd);clear hct hall ht hnd;cases hr:rises ltC l
    ·rw[hr] at R E;clear hr;go_wp2_with fail;refine(R.out _ hf).mono ?_;rintro e w1 ⟨rfl,f1⟩;go_wp2;go_ret;rw[E.out];exact⟨rfl,hf.trans f1⟩
    ·rw[hr] at R E;clear hr;go_wp2_with fail;refine(R.out _ hf).mono ?_;rintro e w1 ⟨rfl,f1⟩;go_wp2;go_ret;rw[E.out];exact⟨rfl,hf.trans f1⟩
   ·have E:=hid (z7d hall (ht.1 rfl));clear hct hall ht R;go_wp2;go_ret;rw[E.out];exact⟨rfl,hf⟩
end Go.Proofs.YtmkhmejempcimaaGreatDoor
namespace Go.Proofs.YtmkhmejempcimaaGreatDoor
open Lib (hid)
open Go.Proofs.Tryz (prog)
open Go.RowKit
theorem five{w:World}{g t:Nat}{a b c d e:Value}(h:Whole w g t [a,b,c,d,e]):
  w.cell? ⟨g,0,none⟩=some a∧w.cell? ⟨g,1,none⟩=some b∧w.cell? ⟨g,2,none⟩=some c∧w.cell? ⟨g,3,none⟩=some d∧w.cell? ⟨g,4,none⟩=some e:=
 ⟨h.cell 0,h.cell 1,h.cell 2,h.cell 3,h.cell 4⟩
theorem z30(x:Itm)(v:Value)(w:World)(B:Nat)(hs:x.Small)(hB:B≤w.heap.size)(h:z1m w B v x):
  Calls prog 56 #[v] w fun e w'=>e=.returned (.int .i64 (z08 x))∧Fr [] w w':=by
 have Bq:=hid (fun W (hf:Fr [] w W)=>zff x v W B hs (h.fr hf hB (by simp)));have M:=hid (fun W (hf:Fr [] w W)=>zab x v W B hs (h.fr hf hB (by simp)));have G:=hid (fun W (hf:Fr [] w W)=>zay x v W B hs (Nat.le_trans hB hf.size) (h.fr hf hB (by simp)));obtain⟨A1,c1,A2,c2,A3,c3,rfl,h1,h2,h3⟩:=h;have I:=hid (fun W=>z6y x.kind 1 5 W);have L:=hid (fun W=>z5b x.text W);have RS:=hid (fun W (hf:Fr [] w W)=>zdm x.list A1 c1 B W hs.list (Nat.le_trans hB hf.size) (h1.fr hf hB (by simp)));have RP:=hid (fun W (hf:Fr [] w W)=>zd2 x.pairs A2 c2 B W hs.pairs (Nat.le_trans hB hf.size) (h2.fr hf hB (by simp)));have SC:=hid (fun W (hf:Fr [] w W)=>z93 x.scores A3 c3 B W hs.scores (fun p hp=>(hs.members p hp).2) (Nat.le_trans hB hf.size) (h3.fr hf hB (by simp)))
 have hE:z08 x=if ¬(1≤x.kind∧x.kind≤5) then 7 else if z4o x=false then 1 else if x.kind=1 then (if 60 < x.text.size then 2 else 0) else if many x=0 then 5 else if 24 < many x∨zai x=true then 2
  else if (x.kind=3∧rises ltS x.list=false)∨(x.kind=4∧rises ltP x.pairs=false) then 4 else z16 x.scores:=rfl
 have hmm:many x≤900000000000000:=by
  have:=hs.list;have:=hs.pairs;have:=hs.scores;unfold many;omega
 clear h1 h2 h3 hs;generalize z08 x=r at *;generalize z4o x=b at *;generalize many x=m at *;generalize zai x=g at *;generalize rises ltS x.list=rs at *;generalize rises ltP x.pairs=rp at *;generalize z16 x.scores=sc at *;generalize x.list.length=n1 at *;generalize x.pairs.length=n2 at *;generalize x.scores.length=n3 at *;generalize x.kind=k at *;generalize x.text=t at *;have F0:Fr [] w (w.alloc (.cells #[.int .i64 k,.string t,.slice A1 n1 c1,.slice A2 n2 c2,.slice A3 n3 c3] 46)):=(Fr.refl [] w).alloc _;have V0:=hid (show Whole (w.alloc (.cells #[.int .i64 k,.string t,.slice A1 n1 c1,.slice A2 n2 c2,.slice A3 n3 c3] 46)) w.heap.size 46 [.int .i64 k,.string t,.slice A1 n1 c1,.slice A2 n2 c2,.slice A3 n3 c3] from Whole.new w _ _);by_cases hk:1≤k∧k≤5
 ·have q1:(decide (1≤k)&&decide (k≤5))=true:=by simp[hk]
  rw[if_neg (fun h=>h hk)] at hE;rw[q1] at I;clear q1;cases b
  ·rw[if_pos rfl] at hE;have E:=hid hE;clear hE hk;go_enter Tryz.func56,Tryz.ntmps56;go_wp2_with fail;refine(I.out _).mono ?_;rintro e w1 ⟨rfl,rfl⟩;go_wp2_with fail;refine(Bq.out _ F0).mono ?_;rintro e w1 ⟨rfl,f1⟩;have F1:=F0.trans f1;have V1:=hid (V0.out.fr f1 (by simp));obtain⟨d0_1,d1_1,d2_1,d3_1,d4_1⟩:=five V1.out;go_wp2;go_ret;rw[E.out];exact⟨rfl,F1⟩
  ·rw[if_neg (by decide)] at hE;by_cases k1:k=1
   ·subst k1;rw[if_pos rfl] at hE;by_cases h6:60 < t.size
    ·rw[if_pos h6] at hE;rw[decide_eq_true h6] at L;have E:=hid hE;clear hE hk;go_enter Tryz.func56,Tryz.ntmps56;go_wp2_with fail;refine(I.out _).mono ?_;rintro e w1 ⟨rfl,rfl⟩;go_wp2_with fail;refine(Bq.out _ F0).mono ?_;rintro e w1 ⟨rfl,f1⟩;have F1:=F0.trans f1;have V1:=hid (V0.out.fr f1 (by simp));obtain⟨d0_1,d1_1,d2_1,d3_1,d4_1⟩:=five V1.out;go_wp2_with fail;refine(L.out _).mono ?_;rintro e w1 ⟨rfl,rfl⟩;go_wp2;go_ret;rw[E.out];exact⟨rfl,F1⟩
    ·rw[if_neg h6] at hE;rw[decide_eq_false h6] at L;have E:=hid hE;clear hE hk;go_enter Tryz.func56,Tryz.ntmps56;go_wp2_with fail;refine(I.out _).mono ?_;rintro e w1 ⟨rfl,rfl⟩;go_wp2_with fail;refine(Bq.out _ F0).mono ?_;rintro e w1 ⟨rfl,f1⟩;have F1:=F0.trans f1;have V1:=hid (V0.out.fr f1 (by simp));obtain⟨d0_1,d1_1,d2_1,d3_1,d4_1⟩:=five V1.out;go_wp2_with fail;refine(L.out _).mono ?_;rintro e w1 ⟨rfl,rfl⟩;go_wp2;go_ret;rw[E.out];exact⟨rfl,F1⟩
   ·rw[if_neg k1] at hE;have q1:(k==1)=false:=by simpa using k1
    clear k1;by_cases hm0:m=0
    ·rw[if_pos hm0] at hE;subst hm0;have E:=hid hE;clear hE hk;go_enter Tryz.func56,Tryz.ntmps56;go_wp2_with fail;refine(I.out _).mono ?_;rintro e w1 ⟨rfl,rfl⟩;go_wp2_with fail;refine(Bq.out _ F0).mono ?_;rintro e w1 ⟨rfl,f1⟩;have F1:=F0.trans f1;have V1:=hid (V0.out.fr f1 (by simp));obtain⟨d0_1,d1_1,d2_1,d3_1,d4_1⟩:=five V1.out;go_wp2_with fail;refine(M.out _ F1).mono ?_;rintro e w2 ⟨rfl,f2⟩;have F2:=F1.trans f2;have V2:=hid (V1.out.fr f2 (by simp));obtain⟨d0_2,d1_2,d2_2,d3_2,d4_2⟩:=five V2.out;go_wp2;go_ret;rw[E.out];exact⟨rfl,F2⟩
    ·rw[if_neg hm0] at hE;have qm:((m:Int)==0)=false:=by simp;omega
     by_cases h24:24 < m
     ·rw[if_pos (.inl h24)] at hE;have E:=hid hE;clear hE hk hm0;go_enter Tryz.func56,Tryz.ntmps56;go_wp2_with fail;refine(I.out _).mono ?_;rintro e w1 ⟨rfl,rfl⟩;go_wp2_with fail;refine(Bq.out _ F0).mono ?_;rintro e w1 ⟨rfl,f1⟩;have F1:=F0.trans f1;have V1:=hid (V0.out.fr f1 (by simp));obtain⟨d0_1,d1_1,d2_1,d3_1,d4_1⟩:=five V1.out;go_wp2_with fail;refine(M.out _ F1).mono ?_;rintro e w2 ⟨rfl,f2⟩;have F2:=F1.trans f2;have V2:=hid (V1.out.fr f2 (by simp));obtain⟨d0_2,d1_2,d2_2,d3_2,d4_2⟩:=five V2.out;go_wp2_with fail;refine(M.out _ F2).mono ?_;rintro e w3 ⟨rfl,f3⟩;have F3:=F2.trans f3;have V3:=hid (V2.out.fr f3 (by simp));obtain⟨d0_3,d1_3,d2_3,d3_3,d4_3⟩:=five V3.out;go_wp2;go_ret;rw[E.out];exact⟨rfl,F3⟩
     ·cases g
      ·rw[if_neg (by simp[h24])] at hE;by_cases k3:k=3
       ·subst k3;cases rs
        ·rw[if_pos (.inl ⟨rfl,rfl⟩)] at hE;have E:=hid hE;clear hE hk hm0;go_enter Tryz.func56,Tryz.ntmps56;go_wp2_with fail;refine(I.out _).mono ?_;rintro e w1 ⟨rfl,rfl⟩;go_wp2_with fail;refine(Bq.out _ F0).mono ?_;rintro e w1 ⟨rfl,f1⟩;have F1:=F0.trans f1;have V1:=hid (V0.out.fr f1 (by simp));obtain⟨d0_1,d1_1,d2_1,d3_1,d4_1⟩:=five V1.out;go_wp2_with fail;refine(M.out _ F1).mono ?_;rintro e w2 ⟨rfl,f2⟩;have F2:=F1.trans f2;have V2:=hid (V1.out.fr f2 (by simp));obtain⟨d0_2,d1_2,d2_2,d3_2,d4_2⟩:=five V2.out;go_wp2_with fail;refine(M.out _ F2).mono ?_;rintro e w3 ⟨rfl,f3⟩;have F3:=F2.trans f3;have V3:=hid (V2.out.fr f3 (by simp));obtain⟨d0_3,d1_3,d2_3,d3_3,d4_3⟩:=five V3.out;go_wp2_with fail;refine(G.out _ F3).mono ?_;rintro e w4 ⟨rfl,f4⟩;have F4:=F3.trans f4;have V4:=hid (V3.out.fr f4 (by simp));obtain⟨d0_4,d1_4,d2_4,d3_4,d4_4⟩:=five V4.out;go_wp2_with fail;refine(RS.out _ F4).mono ?_;rintro e w5 ⟨rfl,f5⟩;have F5:=F4.trans f5;have V5:=hid (V4.out.fr f5 (by simp));obtain⟨d0_5,d1_5,d2_5,d3_5,d4_5⟩:=five V5.out;go_wp2;go_ret;rw[E.out];exact⟨rfl,F5⟩
        ·rw[if_neg (by simp)] at hE;have E:=hid hE;clear hE hk hm0;go_enter Tryz.func56,Tryz.ntmps56;go_wp2_with fail;refine(I.out _).mono ?_;rintro e w1 ⟨rfl,rfl⟩;go_wp2_with fail;refine(Bq.out _ F0).mono ?_;rintro e w1 ⟨rfl,f1⟩;have F1:=F0.trans f1;have V1:=hid (V0.out.fr f1 (by simp));obtain⟨d0_1,d1_1,d2_1,d3_1,d4_1⟩:=five V1.out;go_wp2_with fail;refine(M.out _ F1).mono ?_;rintro e w2 ⟨rfl,f2⟩;have F2:=F1.trans f2;have V2:=hid (V1.out.fr f2 (by simp));obtain⟨d0_2,d1_2,d2_2,d3_2,d4_2⟩:=five V2.out;go_wp2_with fail;refine(M.out _ F2).mono ?_;rintro e w3 ⟨rfl,f3⟩;have F3:=F2.trans f3;have V3:=hid (V2.out.fr f3 (by simp));obtain⟨d0_3,d1_3,d2_3,d3_3,d4_3⟩:=five V3.out;go_wp2_with fail;refine(G.out _ F3).mono ?_;rintro e w4 ⟨rfl,f4⟩;have F4:=F3.trans f4;have V4:=hid (V3.out.fr f4 (by simp));obtain⟨d0_4,d1_4,d2_4,d3_4,d4_4⟩:=five V4.out;go_wp2_with fail;refine(RS.out _ F4).mono ?_;rintro e w5 ⟨rfl,f5⟩;have F5:=F4.trans f5;have V5:=hid (V4.out.fr f5 (by simp));obtain⟨d0_5,d1_5,d2_5,d3_5,d4_5⟩:=five V5.out;go_wp2_with fail;refine(SC.out _ F5).mono ?_;rintro e w6 ⟨rfl,f6⟩;have F6:=F5.trans f6;have V6:=hid (V5.out.fr f6 (by simp));obtain⟨d0_6,d1_6,d2_6,d3_6,d4_6⟩:=five V6.out;go_wp2;go_ret;rw[E.out];exact⟨rfl,F6⟩
       ·have q3:(k==3)=false:=by simpa using k3
        by_cases k4:k=4
        ·subst k4;cases rp
         ·rw[if_pos (.inr ⟨rfl,rfl⟩)] at hE;have E:=hid hE;clear hE hk hm0 k3;go_enter Tryz.func56,Tryz.ntmps56;go_wp2_with fail;refine(I.out _).mono ?_;rintro e w1 ⟨rfl,rfl⟩;go_wp2_with fail;refine(Bq.out _ F0).mono ?_;rintro e w1 ⟨rfl,f1⟩;have F1:=F0.trans f1;have V1:=hid (V0.out.fr f1 (by simp));obtain⟨d0_1,d1_1,d2_1,d3_1,d4_1⟩:=five V1.out;go_wp2_with fail;refine(M.out _ F1).mono ?_;rintro e w2 ⟨rfl,f2⟩;have F2:=F1.trans f2;have V2:=hid (V1.out.fr f2 (by simp));obtain⟨d0_2,d1_2,d2_2,d3_2,d4_2⟩:=five V2.out;go_wp2_with fail;refine(M.out _ F2).mono ?_;rintro e w3 ⟨rfl,f3⟩;have F3:=F2.trans f3;have V3:=hid (V2.out.fr f3 (by simp));obtain⟨d0_3,d1_3,d2_3,d3_3,d4_3⟩:=five V3.out;go_wp2_with fail;refine(G.out _ F3).mono ?_;rintro e w4 ⟨rfl,f4⟩;have F4:=F3.trans f4;have V4:=hid (V3.out.fr f4 (by simp));obtain⟨d0_4,d1_4,d2_4,d3_4,d4_4⟩:=five V4.out;go_wp2_with fail;refine(RP.out _ F4).mono ?_;rintro e w5 ⟨rfl,f5⟩;have F5:=F4.trans f5;have V5:=hid (V4.out.fr f5 (by simp));obtain⟨d0_5,d1_5,d2_5,d3_5,d4_5⟩:=five V5.out;go_wp2;go_ret;rw[E.out];exact⟨rfl,F5⟩
         ·rw[if_neg (by simp)] at hE;have E:=hid hE;clear hE hk hm0 k3;go_enter Tryz.func56,Tryz.ntmps56;go_wp2_with fail;refine(I.out _).mono ?_;rintro e w1 ⟨rfl,rfl⟩;go_wp2_with fail;refine(Bq.out _ F0).mono ?_;rintro e w1 ⟨rfl,f1⟩;have F1:=F0.trans f1;have V1:=hid (V0.out.fr f1 (by simp));obtain⟨d0_1,d1_1,d2_1,d3_1,d4_1⟩:=five V1.out;go_wp2_with fail;refine(M.out _ F1).mono ?_;rintro e w2 ⟨rfl,f2⟩;have F2:=F1.trans f2;have V2:=hid (V1.out.fr f2 (by simp));obtain⟨d0_2,d1_2,d2_2,d3_2,d4_2⟩:=five V2.out;go_wp2_with fail;refine(M.out _ F2).mono ?_;rintro e w3 ⟨rfl,f3⟩;have F3:=F2.trans f3;have V3:=hid (V2.out.fr f3 (by simp));obtain⟨d0_3,d1_3,d2_3,d3_3,d4_3⟩:=five V3.out;go_wp2_with fail;refine(G.out _ F3).mono ?_;rintro e w4 ⟨rfl,f4⟩;have F4:=F3.trans f4;have V4:=hid (V3.out.fr f4 (by simp));obtain⟨d0_4,d1_4,d2_4,d3_4,d4_4⟩:=five V4.out;go_wp2_with fail;refine(RP.out _ F4).mono ?_;rintro e w5 ⟨rfl,f5⟩;have F5:=F4.trans f5;have V5:=hid (V4.out.fr f5 (by simp));obtain⟨d0_5,d1_5,d2_5,d3_5,d4_5⟩:=five V5.out;go_wp2_with fail;refine(SC.out _ F5).mono ?_;rintro e w6 ⟨rfl,f6⟩;have F6:=F5.trans f6;have V6:=hid (V5.out.fr f6 (by simp));obtain⟨d0_6,d1_6,d2_6,d3_6,d4_6⟩:=five V6.out;go_wp2;go_ret;rw[E.out];exact⟨rfl,F6⟩
        ·have q4:(k==4)=false:=by simpa using k4
         rw[if_neg (by simp[k3,k4])] at hE;have E:=hid hE;clear hE hk hm0 k3 k4;go_enter Tryz.func56,Tryz.ntmps56;go_wp2_with fail;refine(I.out _).mono ?_;rintro e w1 ⟨rfl,rfl⟩;go_wp2_with fail;refine(Bq.out _ F0).mono ?_;rintro e w1 ⟨rfl,f1⟩;have F1:=F0.trans f1;have V1:=hid (V0.out.fr f1 (by simp));obtain⟨d0_1,d1_1,d2_1,d3_1,d4_1⟩:=five V1.out;go_wp2_with fail;refine(M.out _ F1).mono ?_;rintro e w2 ⟨rfl,f2⟩;have F2:=F1.trans f2;have V2:=hid (V1.out.fr f2 (by simp));obtain⟨d0_2,d1_2,d2_2,d3_2,d4_2⟩:=five V2.out;go_wp2_with fail;refine(M.out _ F2).mono ?_;rintro e w3 ⟨rfl,f3⟩;have F3:=F2.trans f3;have V3:=hid (V2.out.fr f3 (by simp));obtain⟨d0_3,d1_3,d2_3,d3_3,d4_3⟩:=five V3.out;go_wp2_with fail;refine(G.out _ F3).mono ?_;rintro e w4 ⟨rfl,f4⟩;have F4:=F3.trans f4;have V4:=hid (V3.out.fr f4 (by simp));obtain⟨d0_4,d1_4,d2_4,d3_4,d4_4⟩:=five V4.out;go_wp2_with fail;refine(SC.out _ F4).mono ?_;rintro e w5 ⟨rfl,f5⟩;have F5:=F4.trans f5;have V5:=hid (V4.out.fr f5 (by simp));obtain⟨d0_5,d1_5,d2_5,d3_5,d4_5⟩:=five V5.out;go_wp2;go_ret;rw[E.out];exact⟨rfl,F5⟩
      ·rw[if_pos (.inr rfl)] at hE;have E:=hid hE;clear hE hk hm0;go_enter Tryz.func56,Tryz.ntmps56;go_wp2_with fail;refine(I.out _).mono ?_;rintro e w1 ⟨rfl,rfl⟩;go_wp2_with fail;refine(Bq.out _ F0).mono ?_;rintro e w1 ⟨rfl,f1⟩;have F1:=F0.trans f1;have V1:=hid (V0.out.fr f1 (by simp));obtain⟨d0_1,d1_1,d2_1,d3_1,d4_1⟩:=five V1.out;go_wp2_with fail;refine(M.out _ F1).mono ?_;rintro e w2 ⟨rfl,f2⟩;have F2:=F1.trans f2;have V2:=hid (V1.out.fr f2 (by simp));obtain⟨d0_2,d1_2,d2_2,d3_2,d4_2⟩:=five V2.out;go_wp2_with fail;refine(M.out _ F2).mono ?_;rintro e w3 ⟨rfl,f3⟩;have F3:=F2.trans f3;have V3:=hid (V2.out.fr f3 (by simp));obtain⟨d0_3,d1_3,d2_3,d3_3,d4_3⟩:=five V3.out;go_wp2_with fail;refine(G.out _ F3).mono ?_;rintro e w4 ⟨rfl,f4⟩;have F4:=F3.trans f4;have V4:=hid (V3.out.fr f4 (by simp));obtain⟨d0_4,d1_4,d2_4,d3_4,d4_4⟩:=five V4.out;go_wp2;go_ret;rw[E.out];exact⟨rfl,F4⟩
 ·rw[if_pos hk] at hE;have q1:(decide (1≤k)&&decide (k≤5))=false:=by simp;omega
  rw[q1] at I;have E:=hid hE;clear hE hk q1;go_enter Tryz.func56,Tryz.ntmps56;go_wp2_with fail;refine(I.out _).mono ?_;rintro e w1 ⟨rfl,rfl⟩;go_wp2;go_ret;rw[E.out];exact⟨rfl,F0⟩
theorem zkf{t:ByteArray}(h:t.size=0):t=⟨#[]⟩:=by
 cases t with
 | mk d=>
  congr 1;exact Array.eq_empty_of_size_eq_zero h
theorem neNil{t:ByteArray}(h:¬t.size=0):(t.toList != [])=true∧t.toList.isEmpty=false:=by
 have:=zp5 t;rw[show ByteArray.toList ⟨#[]⟩=[] from by decide +kernel,decide_eq_false h] at this;have h2:t.toList≠[]:=by simpa using this
 exact⟨by simpa using h2,by simpa using h2⟩
end Go.Proofs.YtmkhmejempcimaaGreatDoor
