/- Contracts; no condition but each theorem's own. -/
import Derived.Test.YtmalkppcahogjaaGreatDoorSlR0
import Derived.Carry
import Derived.Deep.DrawnRows
import Derived.Deep.RegionHeld3
import Derived.Deep.RegionLaw
import Derived.Deep.RegionWith
import Derived.Laws.BitsAllLaws
import Derived.Laws.BitsLemmas
import Derived.Laws.Externs
import Derived.Lib.AppendStr
import Derived.Lib.Builder
import Derived.Lib.ConvBytes
import Derived.Lib.Strings
import Derived.Lib.UnsafeStr
import Derived.Maps.Own
import Derived.Maps.OwnOps
import Derived.Maps.Views
import Derived.StringKeys
import Derived.WalkArith
set_option linter.unusedVariables false
set_option linter.unusedSimpArgs false
set_option maxHeartbeats 8000000
set_option maxRecDepth 100000
namespace Go.Proofs.YtmalkppcahogjaaGreatDoor
open Lib (hid)
open Go.Proofs.Tryz (prog)
open Go.RowKit
theorem zkd(l:List (ByteArray×ByteArray))(A:Option Addr)(c B:Nat)(w:World)(hl:l.length≤281474976710656)(hB:B≤w.heap.size)(hsl:Sl w B 2 (.slice A l.length c) l.length (z0f l)):
  Calls prog 176 #[.slice A l.length c,.func (Fn.func 177) #[] #[]] w fun e w'=>e=.returned (.bool (rises ltP l))∧Fr [] w w':=by
 have HS:=hid hsl;clear hsl;go_enter Tryz.func176,Tryz.ntmps176;go_wp2;go_loopg [5] l.length (fun g i wr=>∃(m:Nat),g=l.length - m∧i=.int .i64 ((m:Int)+1)∧m≤l.length∧rises ltP (l.drop m)=rises ltP l∧Fr [] w wr)
 case atStart=>exact⟨0,rfl,rfl,Nat.zero_le _,rfl,Fr.refl _ _⟩
 case round=>
  obtain⟨m,rfl,rfl,hm,hR,hf⟩:=hrel;by_cases hlt:m+1 < l.length
  ·obtain⟨b,off,rfl,hb,hc,hmx,hcell⟩:=HS.out.at_ (by omega);obtain⟨s,hs⟩:∃s,l[m]? = some s:=⟨_,List.getElem?_eq_getElem (by omega)⟩;obtain⟨t,ht⟩:∃t,l[m+1]? = some t:=⟨_,List.getElem?_eq_getElem hlt⟩;have hc1:wr.cell? ⟨b,off+2 * m,none⟩=some (.string s.1):=hf.cell (hcell _ _ (z0l l m s hs).1) (by simp);have hc2:wr.cell? ⟨b,off+2 * m+1,none⟩=some (.string s.2):=hf.cell (hcell _ _ (z0l l m s hs).2) (by simp);have hc3:wr.cell? ⟨b,off+2 * (m+1),none⟩=some (.string t.1):=hf.cell (hcell _ _ (z0l l (m+1) t ht).1) (by simp);have hc4:wr.cell? ⟨b,off+2 * (m+1)+1,none⟩=some (.string t.2):=hf.cell (hcell _ _ (z0l l (m+1) t ht).2) (by simp);rw[Nat.mul_comm 2 m] at hc1 hc2;rw[Nat.mul_comm 2 (m+1)] at hc3 hc4;rw[zan hs ht] at hR;have HC:=hid (fun W=>zas s t W);clear hcell hs ht;have wr1:IntKind.i64.wrap ((m:Int)+1)=(m:Int)+1:=IntWalk.i64_in _ (by omega);have wr2:IntKind.i64.wrap (m:Int)=(m:Int):=IntWalk.i64_in _ (by omega);by_cases hq:z4k s.1 t.1 < 0
   ·rw[show ltP s t=true from decide_eq_true hq,Bool.true_and] at hR;have HR:=hid hR;clear hR;go_wp2
    go_region_with (refine(HC.out _).mono ?_;rintro e w2 ⟨rfl,f2⟩)
    all_goals
     go_wp2;go_roundg (l.length - (m+1))
     case measure=>omega
     case rel=>exact⟨m+1,rfl,rfl,by omega,HR.out,hf.step (T:=[]) ⟨f2.os,f2.tape,f2.output,f2.size,f2.block⟩ (by simp)⟩
   ·rw[show ltP s t=false from decide_eq_false hq,Bool.false_and] at hR;have HR:=hid hR;clear hR;go_wp2
    go_region_with (refine(HC.out _).mono ?_;rintro e w2 ⟨rfl,f2⟩)
    all_goals
     go_wp2;go_ret;rw[←HR.out];exact⟨rfl,hf.step (T:=[]) ⟨f2.os,f2.tape,f2.output,f2.size,f2.block⟩ (by simp)⟩
  ·rw[zdv (by omega)] at hR;have HR:=hid hR;clear hR;go_wp2;go_ret;rw[←HR.out];exact⟨rfl,hf⟩
theorem zl9(l:List (Int×ByteArray))(A:Option Addr)(c B:Nat)(w:World)(hl:l.length≤281474976710656)(hI:∀p∈l,z0i p.1=true)(hB:B≤w.heap.size)(hsl:Sl w B 2 (.slice A l.length c) l.length (z07 l)):
  Calls prog 227 #[.slice A l.length c,.func (Fn.func 228) #[] #[]] w fun e w'=>e=.returned (.bool (rises ltC l))∧Fr [] w w':=by
 have HS:=hid hsl;clear hsl;go_enter Tryz.func227,Tryz.ntmps227;go_wp2;go_loopg [5] l.length (fun g i wr=>∃(m:Nat),g=l.length - m∧i=.int .i64 ((m:Int)+1)∧m≤l.length∧rises ltC (l.drop m)=rises ltC l∧Fr [] w wr)
 case atStart=>exact⟨0,rfl,rfl,Nat.zero_le _,rfl,Fr.refl _ _⟩
 case round=>
  obtain⟨m,rfl,rfl,hm,hR,hf⟩:=hrel;by_cases hlt:m+1 < l.length
  ·obtain⟨b,off,rfl,hb,hc,hmx,hcell⟩:=HS.out.at_ (by omega);obtain⟨s,hs⟩:∃s,l[m]? = some s:=⟨_,List.getElem?_eq_getElem (by omega)⟩;obtain⟨t,ht⟩:∃t,l[m+1]? = some t:=⟨_,List.getElem?_eq_getElem hlt⟩;have hc1:wr.cell? ⟨b,off+2 * m,none⟩=some (.int .i64 s.1):=hf.cell (hcell _ _ (z0a l m s hs).1) (by simp);have hc2:wr.cell? ⟨b,off+2 * m+1,none⟩=some (.string s.2):=hf.cell (hcell _ _ (z0a l m s hs).2) (by simp);have hc3:wr.cell? ⟨b,off+2 * (m+1),none⟩=some (.int .i64 t.1):=hf.cell (hcell _ _ (z0a l (m+1) t ht).1) (by simp);have hc4:wr.cell? ⟨b,off+2 * (m+1)+1,none⟩=some (.string t.2):=hf.cell (hcell _ _ (z0a l (m+1) t ht).2) (by simp);rw[Nat.mul_comm 2 m] at hc1 hc2;rw[Nat.mul_comm 2 (m+1)] at hc3 hc4;rw[zan hs ht] at hR;have HC:=hid (fun W=>zb6 s t W (hI s (List.mem_of_getElem? hs)) (hI t (List.mem_of_getElem? ht)));clear hcell hs ht;have wr1:IntKind.i64.wrap ((m:Int)+1)=(m:Int)+1:=IntWalk.i64_in _ (by omega);have wr2:IntKind.i64.wrap (m:Int)=(m:Int):=IntWalk.i64_in _ (by omega);by_cases hq:z94 s t < 0
   ·rw[show ltC s t=true from decide_eq_true hq,Bool.true_and] at hR;have HR:=hid hR;clear hR;go_wp2
    go_region_with (refine(HC.out _).mono ?_;rintro e w2 ⟨rfl,f2⟩)
    all_goals
     go_wp2;go_roundg (l.length - (m+1))
     case measure=>omega
     case rel=>exact⟨m+1,rfl,rfl,by omega,HR.out,hf.step (T:=[]) ⟨f2.os,f2.tape,f2.output,f2.size,f2.block⟩ (by simp)⟩
   ·rw[show ltC s t=false from decide_eq_false hq,Bool.false_and] at hR;have HR:=hid hR;clear hR;go_wp2
    go_region_with (refine(HC.out _).mono ?_;rintro e w2 ⟨rfl,f2⟩)
    all_goals
     go_wp2;go_ret;rw[←HR.out];exact⟨rfl,hf.step (T:=[]) ⟨f2.os,f2.tape,f2.output,f2.size,f2.block⟩ (by simp)⟩
  ·rw[zdv (by omega)] at hR;have HR:=hid hR;clear hR;go_wp2;go_ret;rw[←HR.out];exact⟨rfl,hf⟩
end Go.Proofs.YtmalkppcahogjaaGreatDoor
namespace Go.Proofs.YtmalkppcahogjaaGreatDoor
open Lib (hid)
open Go.Proofs.Tryz (prog)
def z1h(l:List (Int×ByteArray)):Int:=
 if l.any (fun p=>!z0i p.1) then 3 else if ¬(l.map (·.2)).Nodup then 6 else if rises ltC l then 0 else 4
def z0e(x:Itm):Int:=
 if ¬(1≤x.kind∧x.kind≤5) then 7
 else if z6k x=false then 1
 else if x.kind=1 then (if 60 < x.text.size then 2 else 0)
 else if many x=0 then 5
 else if 24 < many x∨z97 x=true then 2
 else if (x.kind=3∧rises ltS x.list=false)∨(x.kind=4∧rises ltP x.pairs=false) then 4
 else z1h x.scores
end Go.Proofs.YtmalkppcahogjaaGreatDoor
namespace Go.Proofs.YtmalkppcahogjaaGreatDoor
open Lib (hid)
open Go.Proofs.Tryz (prog)
open Go.RowKit Go.WideMaps Go.Maps
def often(ms:List ByteArray)(s:ByteArray):Nat:=ms.countP (fun t=>decide (t=s))
structure Counts{H:Type}(D:DataW H)(ms:List ByteArray):Prop where
 isMap:IsMap D
 at_:∀s:ByteArray,D.atKey (.string s.data.toList) (.lit (.int .i64 0))=.lit (.int .i64 (often ms s:Nat))
theorem Counts.nil{H:Type}:Counts (H:=H) (.map []) []:=⟨⟨[],rfl⟩,fun s=>rfl⟩
theorem Counts.step{H:Type}{D:DataW H}{ms:List ByteArray}{s:ByteArray}{c:Int}(h:Counts D ms)(hc:D.atKey (.string s.data.toList) (.lit (.int .i64 0))=.lit (.int .i64 c)):
  c=(often ms s:Nat)∧Counts (D.put (.string s.data.toList) (.lit (.int .i64 (c+1)))) (ms++[s]):=by
 have e:c=(often ms s:Nat):=by
  rw[h.at_ s] at hc;injection hc with hc
  injection hc with _ hc
  exact hc.symm
 refine⟨e,?_,fun t=>?_⟩
 ·obtain⟨es,rfl⟩:=h.isMap;exact⟨_,rfl⟩
 ·by_cases ht:t=s
  ·subst ht;rw[atKey_put_same h.isMap (by trivial),e];simp[often,List.countP_append]
  ·rw[atKey_put_other (fun he=>ht (by
    injection he with he
    cases t;cases s;congr 1;exact Array.toList_inj.1 he)),h.at_ t]
   simp[often,List.countP_append,Ne.symm ht]
theorem zpd{ms:List ByteArray}{s:ByteArray}:0 < often ms s↔s∈ms:=by
 unfold often;rw[List.countP_pos_iff];constructor
 ·rintro⟨t,ht,h⟩;rw[←of_decide_eq_true h];exact ht
 ·intro h;exact⟨s,h,decide_eq_true rfl⟩
theorem znq{ms:List ByteArray}{s:ByteArray}:(ms++[s]).Nodup↔ms.Nodup∧¬0 < often ms s:=by
 rw[zpd,List.nodup_append];constructor
 ·rintro⟨h1,_,h3⟩;exact⟨h1,fun hm=>h3 s hm s (by simp) rfl⟩
 ·rintro⟨h1,h2⟩;refine⟨h1,by simp,fun a ha b hb=>?_⟩;rw[List.mem_singleton.1 hb];rintro rfl;exact h2 ha
end Go.Proofs.YtmalkppcahogjaaGreatDoor
namespace Go.Proofs.YtmalkppcahogjaaGreatDoor
open Lib (hid)
open Go.Proofs.Tryz (prog)
def z2p(k:Int):Itm:=⟨k,ByteArray.empty,[],[],[]⟩
end Go.Proofs.YtmalkppcahogjaaGreatDoor
namespace Go.Proofs.YtmalkppcahogjaaGreatDoor
open Lib (hid)
open Go.Proofs.Tryz (prog)
open Go.RowKit Go.WideMaps Go.Maps
theorem zih:Keyed prog 9:=string_keyed Tryz.underlying9
theorem zl4(w:World):(zeroValue 3).run prog w=.ok (.int .i64 0) w:=by kernel_rfl
theorem ze6{l:List (Int×ByteArray)}{k:Nat}{p:Int×ByteArray}(hk:l[k]? = some p)(h:z0i p.1=false):z1h l=3:=by
 unfold z1h;rw[if_pos (List.any_eq_true.2 ⟨p,List.mem_of_getElem? hk,by simp[h]⟩)]
theorem zqq{l:List (Int×ByteArray)}(h:∀p∈l,z0i p.1=true):(l.any fun p=>!z0i p.1)=false:=by
 rw[List.any_eq_false];intro p hp;simp[h p hp]
theorem zc4{l:List (Int×ByteArray)}(h:∀p∈l,z0i p.1=true)(h2:¬(l.map (·.2)).Nodup):z1h l=6:=by
 unfold z1h;rw[if_neg (by rw[zqq h];decide),if_pos h2]
theorem zc2{l:List (Int×ByteArray)}(h:∀p∈l,z0i p.1=true)(h2:(l.map (·.2)).Nodup):z1h l=if rises ltC l then 0 else 4:=by
 unfold z1h;rw[if_neg (by rw[zqq h];decide),if_neg (fun h3=>h3 h2)]
theorem zq5{l:List (Int×ByteArray)}{k:Nat}(hk:l.length≤k)(h:∀(j:Nat) p,j < k→l[j]? = some p→z0i p.1=true):∀p∈l,z0i p.1=true:=by
 intro p hp;obtain⟨j,hj⟩:=List.getElem?_of_mem hp;exact h j p (by have:=(List.getElem?_eq_some_iff.1 hj).1;omega) hj
theorem zbc{l:List (Int×ByteArray)}{k:Nat}{p:Int×ByteArray}(hk:l[k]? = some p):(l.take (k+1)).map (·.2)=(l.take k).map (·.2)++[p.2]:=by
 rw[List.take_add_one,hk];simp
structure Counted(l:List (Int×ByteArray))(k B:Nat)(D:DataW Unit)(t:Bool)(wr:World):Prop where
 own:wr.ownsMap prog 9 (plainElem prog 3) B k D
 counts:Counts D ((l.take k).map (·.2))
 twice:t=true↔¬((l.take k).map (·.2)).Nodup
 ints:∀(j:Nat) p,j < k→l[j]? = some p→z0i p.1=true
theorem zs3{l:List (Int×ByteArray)}{k:Nat}{p:Int×ByteArray}(hk:l[k]? = some p)(hi:z0i p.1=true)(h:∀(j:Nat) p,j < k→l[j]? = some p→z0i p.1=true):
  ∀(j:Nat) p,j < k+1→l[j]? = some p→z0i p.1=true:=by
 intro j q hj hq;rcases Nat.lt_or_ge j k with h1|h1
 ·exact h j q h1 hq
 ·have e:j=k:=by omega
  subst e;rw[hk] at hq;cases hq;exact hi
theorem Counted.bounds{l:List (Int×ByteArray)}{k B:Nat}{D:DataW Unit}{t:Bool}{wr:World}{s:ByteArray}{c:Int}(h:Counted l k B D t wr)
  (hc:D.atKey (.string s.data.toList) (.lit (.int .i64 0))=.lit (.int .i64 c)):0≤c∧c≤k:=by
 have hs:=h.counts.step hc
 have hle:often ((l.take k).map (·.2)) s≤k:=by
  unfold often;refine Nat.le_trans List.countP_le_length ?_;rw[List.length_map];exact List.length_take_le _ _
 omega
theorem Counted.step{l:List (Int×ByteArray)}{k B:Nat}{D:DataW Unit}{t:Bool}{wr w1:World}{p:Int×ByteArray}{c:Int}(h:Counted l k B D t wr)(hk:l[k]? = some p)(hi:z0i p.1=true)
  (hc:D.atKey (.string p.2.data.toList) (.lit (.int .i64 0))=.lit (.int .i64 c)) (own:w1.ownsMap prog 9 (plainElem prog 3) B (k+1) (D.put (.string p.2.data.toList) (.lit (.int .i64 (c+1))))):
  0≤c∧c≤k∧Counted l (k+1) B (D.put (.string p.2.data.toList) (.lit (.int .i64 (c+1)))) (t||decide (1 < c+1)) w1:=by
 have hs:=h.counts.step hc
 have hle:often ((l.take k).map (·.2)) p.2≤k:=by
  unfold often;refine Nat.le_trans List.countP_le_length ?_;rw[List.length_map];exact List.length_take_le _ _
 refine⟨by omega,by omega,own,by rw[zbc hk];exact hs.2,?_,zs3 hk hi h.ints⟩;rw[zbc hk,znq];have:=h.twice;have e:(1 < c+1)↔0 < often ((l.take k).map (·.2)) p.2:=by omega
 rw[Bool.or_eq_true,decide_eq_true_eq,e,this];constructor
 ·rintro(h1|h1) ⟨h2,h3⟩
  ·exact h1 h2
  ·exact h3 h1
 ·intro h1;by_cases h2:((l.take k).map (·.2)).Nodup
  ·exact .inr (Decidable.not_not.1 fun h3=>h1 ⟨h2,h3⟩)
  ·exact .inl h2
theorem Counted.again{l:List (Int×ByteArray)}{k B:Nat}{D:DataW Unit}{t:Bool}{wr w1:World}{s:ByteArray}{c:Int}(h:Counted l k B D t wr)
  (hc:D.atKey (.string s.data.toList) (.lit (.int .i64 0))=.lit (.int .i64 c)) (own:w1.ownsMap prog 9 (plainElem prog 3) B (k+1) (D.put (.string s.data.toList) (.lit (.int .i64 (c+1)))))
  (hkey:keyOf prog 9 (.string s)=some (.string s.data.toList)):
  (Instr.lookup 248 (.map (some B)) (.string s) false).run prog w1=.ok (.int .i64 (c+1)) w1:=by
 obtain⟨c2,hrun,hat,_⟩:=own.lookup_int zih Tryz.underlying248 Tryz.underlying3 (zl4 _) hkey;rw[atKey_put_same h.counts.isMap (by trivial)] at hat;injection hat with hat
 injection hat with _ hat
 rw[hrun,hat]
theorem zef(l:List (Int×ByteArray))(A:Option Addr)(c B:Nat)(w:World)(hl:l.length≤281474976710656)(hsm:∀p∈l,p.2.size≤281474976710656)(hB:B≤w.heap.size)(hsl:Sl w B 2 (.slice A l.length c) l.length (z07 l)):
  Calls prog 178 #[.slice A l.length c] w fun e w'=>e=.returned (.int .i64 (z1h l))∧Fr [] w w':=by
 have hmm:=@run_makeMap prog;have HS:=hid hsl;have HM:=hid hsm;clear hsl hsm;go_enter Tryz.func178,Tryz.ntmps178;go_wp2;go_loopg [4,10] l.length (fun g tw i wr=>∃(k:Nat) (D:DataW Unit) (t:Bool),g=l.length - k∧k≤l.length∧i=.int .i64 k∧tw=.bool t∧Counted l k w.heap.size D t wr∧Fr [] w wr)
 case atStart=>exact⟨0,.map [],false,rfl,Nat.zero_le _,rfl,rfl,⟨World.ownsMap_made _ _ _ _,Counts.nil,by simp,fun j p hj=>absurd hj (Nat.not_lt_zero _)⟩,(Fr.refl [] w).alloc _⟩
 case round=>
  clear hmm;obtain⟨k,D,t,rfl,hk,rfl,rfl,hct,hf⟩:=hrel;by_cases hlt:k < l.length
  ·obtain⟨b,off,rfl,hb,hc,hm,hcell⟩:=HS.out.at_ (by omega);obtain⟨p,hp⟩:∃p,l[k]? = some p:=⟨_,List.getElem?_eq_getElem hlt⟩;have hc1:wr.cell? ⟨b,off+2 * k,none⟩=some (.int .i64 p.1):=hf.cell (hcell _ _ (z0a l k p hp).1) (by simp);have hc2:wr.cell? ⟨b,off+2 * k+1,none⟩=some (.string p.2):=hf.cell (hcell _ _ (z0a l k p hp).2) (by simp);rw[Nat.mul_comm 2 k] at hc1 hc2;have I:=hid (fun W=>z6j p.1 W);by_cases hi:z0i p.1=true
   ·rw[hi] at I;have hsz:=HM.out p (List.mem_of_getElem? hp);have hkey:keyOf prog 9 (.string p.2)=some (.string p.2.data.toList):=keyOf_string_mk Tryz.underlying9 (by unfold maxLen;omega);have HK:=hid hkey;have HC:=hid hct;have HP:=hid hp;have HI:=hid hi;clear hcell hkey hct hp hi;cases t
    ·go_wp2_with fail;refine(I.out _).mono ?_;rintro e w1 ⟨rfl,rfl⟩;go_wp2_with (at_lookup;refine wpList_lookup_own_int _ rfl _ _ 248 rfl 9 3 .i64 zih Tryz.underlying248 Tryz.underlying3 (zl4 _) w.heap.size k D rfl (HC.out.own.alloc _) _ _ rfl HK.out ?_);intro c hat hwc;obtain⟨hq0,hqk⟩:=HC.out.bounds hat;go_wp2_with (at_mapUpdate;go_must (refine wpList_mapUpdate_own _ rfl _ _ _ 248 rfl 9 3 zih Tryz.underlying248 _ w.heap.size k _ rfl (HC.out.own.alloc _) (by unfold maxLen;omega) _ _ _ rfl rfl HK.out _ [] (plainElem_int Tryz.underlying3 (WalkArith.wf_i64 (by omega))) ?_));intro w1 hown1 hgrow1;have hs:=HC.out.step HP.out HI.out hat hown1;have hc2:=HC.out.again hat hown1 HK.out;obtain⟨_,_,hs⟩:=hs;have W0:Whole (wr.alloc (.cells #[.int .i64 p.1,.string p.2] 113)) wr.heap.size 113 [.int .i64 p.1,.string p.2]:=Whole.new wr _ _;have hbl:w.heap.size < wr.heap.size:=HC.out.own.lt;have d1:w1.cell? ⟨wr.heap.size,1,none⟩=some (.string p.2):=(W0.grown hgrow1 (by simp;omega)).cell 1;have F1:Fr [] w w1:=(hf.alloc _).grown hgrow1 (by intro k hk;cases hk;exact .inr (Nat.le_refl _));have HS2:=hid hs;clear hs hown1 hgrow1 W0 hat hwc hf;by_cases h1:1 < c+1
     ·rw[decide_eq_true h1] at HS2;go_wp2;go_roundg (l.length - (k+1))
      case measure=>omega
      case rel=>exact⟨k+1,_,true,rfl,by omega,rfl,rfl,HS2.out,F1⟩
     ·rw[decide_eq_false h1] at HS2;go_wp2;go_roundg (l.length - (k+1))
      case measure=>omega
      case rel=>exact⟨k+1,_,false,rfl,by omega,rfl,rfl,HS2.out,F1⟩
    ·go_wp2_with fail;refine(I.out _).mono ?_;rintro e w1 ⟨rfl,rfl⟩;go_wp2_with (at_lookup;refine wpList_lookup_own_int _ rfl _ _ 248 rfl 9 3 .i64 zih Tryz.underlying248 Tryz.underlying3 (zl4 _) w.heap.size k D rfl (HC.out.own.alloc _) _ _ rfl HK.out ?_);intro c hat hwc;obtain⟨hq0,hqk⟩:=HC.out.bounds hat;go_wp2_with (at_mapUpdate;go_must (refine wpList_mapUpdate_own _ rfl _ _ _ 248 rfl 9 3 zih Tryz.underlying248 _ w.heap.size k _ rfl (HC.out.own.alloc _) (by unfold maxLen;omega) _ _ _ rfl rfl HK.out _ [] (plainElem_int Tryz.underlying3 (WalkArith.wf_i64 (by omega))) ?_));intro w1 hown1 hgrow1;have hs:=HC.out.step HP.out HI.out hat hown1;obtain⟨_,_,hs⟩:=hs;rw[Bool.true_or] at hs;have F1:Fr [] w w1:=(hf.alloc _).grown hgrow1 (by intro k hk;cases hk;exact .inr (Nat.le_refl _));have HS2:=hid hs;clear hs hown1 hgrow1 hat hwc hf;go_wp2;go_roundg (l.length - (k+1))
     case measure=>omega
     case rel=>exact⟨k+1,_,true,rfl,by omega,rfl,rfl,HS2.out,F1⟩
   ·have hi':z0i p.1=false:=by simpa using hi
    rw[hi'] at I;have E:=hid (ze6 hp hi');clear hcell hct hp hi hi';go_wp2_with fail;refine(I.out _).mono ?_;rintro e w1 ⟨rfl,rfl⟩;go_wp2;go_ret;rw[E.out];exact⟨rfl,hf.alloc _⟩
  ·have hall:=zq5 (by omega) hct.ints;have ht:=hct.twice;rw[List.take_of_length_le (by omega)] at ht;have R:=hid (fun W (hW:Fr [] w W)=>zl9 l A c B W hl hall (Nat.le_trans hB hW.size) (HS.out.fr hW hB (by simp)));cases t
   ·have hnd:(l.map (·.2)).Nodup:=Decidable.not_not.1 fun h=>by have:=ht.2 h;cases this
    have E:=hid (zc2 hall hnd);clear hct hall ht hnd;cases hr:rises ltC l
    ·rw[hr] at R E;clear hr;go_wp2_with fail;refine(R.out _ hf).mono ?_;rintro e w1 ⟨rfl,f1⟩;go_wp2;go_ret;rw[E.out];exact⟨rfl,hf.trans f1⟩
    ·rw[hr] at R E;clear hr;go_wp2_with fail;refine(R.out _ hf).mono ?_;rintro e w1 ⟨rfl,f1⟩;go_wp2;go_ret;rw[E.out];exact⟨rfl,hf.trans f1⟩
   ·have E:=hid (zc4 hall (ht.1 rfl));clear hct hall ht R;go_wp2;go_ret;rw[E.out];exact⟨rfl,hf⟩
end Go.Proofs.YtmalkppcahogjaaGreatDoor
namespace Go.Proofs.YtmalkppcahogjaaGreatDoor
open Lib (hid)
open Go.Proofs.Tryz (prog)
open Go.RowKit
theorem five{w:World}{g t:Nat}{a b c d e:Value}(h:Whole w g t [a,b,c,d,e]):
  w.cell? ⟨g,0,none⟩=some a∧w.cell? ⟨g,1,none⟩=some b∧w.cell? ⟨g,2,none⟩=some c∧w.cell? ⟨g,3,none⟩=some d∧w.cell? ⟨g,4,none⟩=some e:=
 ⟨h.cell 0,h.cell 1,h.cell 2,h.cell 3,h.cell 4⟩
theorem z6x(x:Itm)(v:Value)(w:World)(B:Nat)(hs:x.Small)(hB:B≤w.heap.size)(h:z0r w B v x):
  Calls prog 115 #[v] w fun e w'=>e=.returned (.int .i64 (z0e x))∧Fr [] w w':=by
 have Bq:=hid (fun W (hf:Fr [] w W)=>zma x v W B hs (h.fr hf hB (by simp)));have M:=hid (fun W (hf:Fr [] w W)=>zlm x v W B hs (h.fr hf hB (by simp)));have G:=hid (fun W (hf:Fr [] w W)=>zj6 x v W B hs (Nat.le_trans hB hf.size) (h.fr hf hB (by simp)));obtain⟨A1,c1,A2,c2,A3,c3,rfl,h1,h2,h3⟩:=h;have I:=hid (fun W=>zeu x.kind 1 5 W);have L:=hid (fun W=>z2r x.text W);have RS:=hid (fun W (hf:Fr [] w W)=>zji x.list A1 c1 B W hs.list (Nat.le_trans hB hf.size) (h1.fr hf hB (by simp)));have RP:=hid (fun W (hf:Fr [] w W)=>zkd x.pairs A2 c2 B W hs.pairs (Nat.le_trans hB hf.size) (h2.fr hf hB (by simp)));have SC:=hid (fun W (hf:Fr [] w W)=>zef x.scores A3 c3 B W hs.scores (fun p hp=>(hs.members p hp).2) (Nat.le_trans hB hf.size) (h3.fr hf hB (by simp)))
 have hE:z0e x=if ¬(1≤x.kind∧x.kind≤5) then 7 else if z6k x=false then 1 else if x.kind=1 then (if 60 < x.text.size then 2 else 0) else if many x=0 then 5 else if 24 < many x∨z97 x=true then 2
  else if (x.kind=3∧rises ltS x.list=false)∨(x.kind=4∧rises ltP x.pairs=false) then 4 else z1h x.scores:=rfl
 have hmm:many x≤900000000000000:=by
  have:=hs.list;have:=hs.pairs;have:=hs.scores;unfold many;omega
 clear h1 h2 h3 hs;generalize z0e x=r at *;generalize z6k x=b at *;generalize many x=m at *;generalize z97 x=g at *;generalize rises ltS x.list=rs at *;generalize rises ltP x.pairs=rp at *;generalize z1h x.scores=sc at *;generalize x.list.length=n1 at *;generalize x.pairs.length=n2 at *;generalize x.scores.length=n3 at *;generalize x.kind=k at *;generalize x.text=t at *;have F0:Fr [] w (w.alloc (.cells #[.int .i64 k,.string t,.slice A1 n1 c1,.slice A2 n2 c2,.slice A3 n3 c3] 65)):=(Fr.refl [] w).alloc _;have V0:=hid (show Whole (w.alloc (.cells #[.int .i64 k,.string t,.slice A1 n1 c1,.slice A2 n2 c2,.slice A3 n3 c3] 65)) w.heap.size 65 [.int .i64 k,.string t,.slice A1 n1 c1,.slice A2 n2 c2,.slice A3 n3 c3] from Whole.new w _ _);by_cases hk:1≤k∧k≤5
 ·have q1:(decide (1≤k)&&decide (k≤5))=true:=by simp[hk]
  rw[if_neg (fun h=>h hk)] at hE;rw[q1] at I;clear q1;cases b
  ·rw[if_pos rfl] at hE;have E:=hid hE;clear hE hk;go_enter Tryz.func115,Tryz.ntmps115;go_wp2_with fail;refine(I.out _).mono ?_;rintro e w1 ⟨rfl,rfl⟩;go_wp2_with fail;refine(Bq.out _ F0).mono ?_;rintro e w1 ⟨rfl,f1⟩;have F1:=F0.trans f1;have V1:=hid (V0.out.fr f1 (by simp));obtain⟨d0_1,d1_1,d2_1,d3_1,d4_1⟩:=five V1.out;go_wp2;go_ret;rw[E.out];exact⟨rfl,F1⟩
  ·rw[if_neg (by decide)] at hE;by_cases k1:k=1
   ·subst k1;rw[if_pos rfl] at hE;by_cases h6:60 < t.size
    ·rw[if_pos h6] at hE;rw[decide_eq_true h6] at L;have E:=hid hE;clear hE hk;go_enter Tryz.func115,Tryz.ntmps115;go_wp2_with fail;refine(I.out _).mono ?_;rintro e w1 ⟨rfl,rfl⟩;go_wp2_with fail;refine(Bq.out _ F0).mono ?_;rintro e w1 ⟨rfl,f1⟩;have F1:=F0.trans f1;have V1:=hid (V0.out.fr f1 (by simp));obtain⟨d0_1,d1_1,d2_1,d3_1,d4_1⟩:=five V1.out;go_wp2_with fail;refine(L.out _).mono ?_;rintro e w1 ⟨rfl,rfl⟩;go_wp2;go_ret;rw[E.out];exact⟨rfl,F1⟩
    ·rw[if_neg h6] at hE;rw[decide_eq_false h6] at L;have E:=hid hE;clear hE hk;go_enter Tryz.func115,Tryz.ntmps115;go_wp2_with fail;refine(I.out _).mono ?_;rintro e w1 ⟨rfl,rfl⟩;go_wp2_with fail;refine(Bq.out _ F0).mono ?_;rintro e w1 ⟨rfl,f1⟩;have F1:=F0.trans f1;have V1:=hid (V0.out.fr f1 (by simp));obtain⟨d0_1,d1_1,d2_1,d3_1,d4_1⟩:=five V1.out;go_wp2_with fail;refine(L.out _).mono ?_;rintro e w1 ⟨rfl,rfl⟩;go_wp2;go_ret;rw[E.out];exact⟨rfl,F1⟩
   ·rw[if_neg k1] at hE;have q1:(k==1)=false:=by simpa using k1
    clear k1;by_cases hm0:m=0
    ·rw[if_pos hm0] at hE;subst hm0;have E:=hid hE;clear hE hk;go_enter Tryz.func115,Tryz.ntmps115;go_wp2_with fail;refine(I.out _).mono ?_;rintro e w1 ⟨rfl,rfl⟩;go_wp2_with fail;refine(Bq.out _ F0).mono ?_;rintro e w1 ⟨rfl,f1⟩;have F1:=F0.trans f1;have V1:=hid (V0.out.fr f1 (by simp));obtain⟨d0_1,d1_1,d2_1,d3_1,d4_1⟩:=five V1.out;go_wp2_with fail;refine(M.out _ F1).mono ?_;rintro e w2 ⟨rfl,f2⟩;have F2:=F1.trans f2;have V2:=hid (V1.out.fr f2 (by simp));obtain⟨d0_2,d1_2,d2_2,d3_2,d4_2⟩:=five V2.out;go_wp2;go_ret;rw[E.out];exact⟨rfl,F2⟩
    ·rw[if_neg hm0] at hE;have qm:((m:Int)==0)=false:=by simp;omega
     by_cases h24:24 < m
     ·rw[if_pos (.inl h24)] at hE;have E:=hid hE;clear hE hk hm0;go_enter Tryz.func115,Tryz.ntmps115;go_wp2_with fail;refine(I.out _).mono ?_;rintro e w1 ⟨rfl,rfl⟩;go_wp2_with fail;refine(Bq.out _ F0).mono ?_;rintro e w1 ⟨rfl,f1⟩;have F1:=F0.trans f1;have V1:=hid (V0.out.fr f1 (by simp));obtain⟨d0_1,d1_1,d2_1,d3_1,d4_1⟩:=five V1.out;go_wp2_with fail;refine(M.out _ F1).mono ?_;rintro e w2 ⟨rfl,f2⟩;have F2:=F1.trans f2;have V2:=hid (V1.out.fr f2 (by simp));obtain⟨d0_2,d1_2,d2_2,d3_2,d4_2⟩:=five V2.out;go_wp2_with fail;refine(M.out _ F2).mono ?_;rintro e w3 ⟨rfl,f3⟩;have F3:=F2.trans f3;have V3:=hid (V2.out.fr f3 (by simp));obtain⟨d0_3,d1_3,d2_3,d3_3,d4_3⟩:=five V3.out;go_wp2;go_ret;rw[E.out];exact⟨rfl,F3⟩
     ·cases g
      ·rw[if_neg (by simp[h24])] at hE;by_cases k3:k=3
       ·subst k3;cases rs
        ·rw[if_pos (.inl ⟨rfl,rfl⟩)] at hE;have E:=hid hE;clear hE hk hm0;go_enter Tryz.func115,Tryz.ntmps115;go_wp2_with fail;refine(I.out _).mono ?_;rintro e w1 ⟨rfl,rfl⟩;go_wp2_with fail;refine(Bq.out _ F0).mono ?_;rintro e w1 ⟨rfl,f1⟩;have F1:=F0.trans f1;have V1:=hid (V0.out.fr f1 (by simp));obtain⟨d0_1,d1_1,d2_1,d3_1,d4_1⟩:=five V1.out;go_wp2_with fail;refine(M.out _ F1).mono ?_;rintro e w2 ⟨rfl,f2⟩;have F2:=F1.trans f2;have V2:=hid (V1.out.fr f2 (by simp));obtain⟨d0_2,d1_2,d2_2,d3_2,d4_2⟩:=five V2.out;go_wp2_with fail;refine(M.out _ F2).mono ?_;rintro e w3 ⟨rfl,f3⟩;have F3:=F2.trans f3;have V3:=hid (V2.out.fr f3 (by simp));obtain⟨d0_3,d1_3,d2_3,d3_3,d4_3⟩:=five V3.out;go_wp2_with fail;refine(G.out _ F3).mono ?_;rintro e w4 ⟨rfl,f4⟩;have F4:=F3.trans f4;have V4:=hid (V3.out.fr f4 (by simp));obtain⟨d0_4,d1_4,d2_4,d3_4,d4_4⟩:=five V4.out;go_wp2_with fail;refine(RS.out _ F4).mono ?_;rintro e w5 ⟨rfl,f5⟩;have F5:=F4.trans f5;have V5:=hid (V4.out.fr f5 (by simp));obtain⟨d0_5,d1_5,d2_5,d3_5,d4_5⟩:=five V5.out;go_wp2;go_ret;rw[E.out];exact⟨rfl,F5⟩
        ·rw[if_neg (by simp)] at hE;have E:=hid hE;clear hE hk hm0;go_enter Tryz.func115,Tryz.ntmps115;go_wp2_with fail;refine(I.out _).mono ?_;rintro e w1 ⟨rfl,rfl⟩;go_wp2_with fail;refine(Bq.out _ F0).mono ?_;rintro e w1 ⟨rfl,f1⟩;have F1:=F0.trans f1;have V1:=hid (V0.out.fr f1 (by simp));obtain⟨d0_1,d1_1,d2_1,d3_1,d4_1⟩:=five V1.out;go_wp2_with fail;refine(M.out _ F1).mono ?_;rintro e w2 ⟨rfl,f2⟩;have F2:=F1.trans f2;have V2:=hid (V1.out.fr f2 (by simp));obtain⟨d0_2,d1_2,d2_2,d3_2,d4_2⟩:=five V2.out;go_wp2_with fail;refine(M.out _ F2).mono ?_;rintro e w3 ⟨rfl,f3⟩;have F3:=F2.trans f3;have V3:=hid (V2.out.fr f3 (by simp));obtain⟨d0_3,d1_3,d2_3,d3_3,d4_3⟩:=five V3.out;go_wp2_with fail;refine(G.out _ F3).mono ?_;rintro e w4 ⟨rfl,f4⟩;have F4:=F3.trans f4;have V4:=hid (V3.out.fr f4 (by simp));obtain⟨d0_4,d1_4,d2_4,d3_4,d4_4⟩:=five V4.out;go_wp2_with fail;refine(RS.out _ F4).mono ?_;rintro e w5 ⟨rfl,f5⟩;have F5:=F4.trans f5;have V5:=hid (V4.out.fr f5 (by simp));obtain⟨d0_5,d1_5,d2_5,d3_5,d4_5⟩:=five V5.out;go_wp2_with fail;refine(SC.out _ F5).mono ?_;rintro e w6 ⟨rfl,f6⟩;have F6:=F5.trans f6;have V6:=hid (V5.out.fr f6 (by simp));obtain⟨d0_6,d1_6,d2_6,d3_6,d4_6⟩:=five V6.out;go_wp2;go_ret;rw[E.out];exact⟨rfl,F6⟩
       ·have q3:(k==3)=false:=by simpa using k3
        by_cases k4:k=4
        ·subst k4;cases rp
         ·rw[if_pos (.inr ⟨rfl,rfl⟩)] at hE;have E:=hid hE;clear hE hk hm0 k3;go_enter Tryz.func115,Tryz.ntmps115;go_wp2_with fail;refine(I.out _).mono ?_;rintro e w1 ⟨rfl,rfl⟩;go_wp2_with fail;refine(Bq.out _ F0).mono ?_;rintro e w1 ⟨rfl,f1⟩;have F1:=F0.trans f1;have V1:=hid (V0.out.fr f1 (by simp));obtain⟨d0_1,d1_1,d2_1,d3_1,d4_1⟩:=five V1.out;go_wp2_with fail;refine(M.out _ F1).mono ?_;rintro e w2 ⟨rfl,f2⟩;have F2:=F1.trans f2;have V2:=hid (V1.out.fr f2 (by simp));obtain⟨d0_2,d1_2,d2_2,d3_2,d4_2⟩:=five V2.out;go_wp2_with fail;refine(M.out _ F2).mono ?_;rintro e w3 ⟨rfl,f3⟩;have F3:=F2.trans f3;have V3:=hid (V2.out.fr f3 (by simp));obtain⟨d0_3,d1_3,d2_3,d3_3,d4_3⟩:=five V3.out;go_wp2_with fail;refine(G.out _ F3).mono ?_;rintro e w4 ⟨rfl,f4⟩;have F4:=F3.trans f4;have V4:=hid (V3.out.fr f4 (by simp));obtain⟨d0_4,d1_4,d2_4,d3_4,d4_4⟩:=five V4.out;go_wp2_with fail;refine(RP.out _ F4).mono ?_;rintro e w5 ⟨rfl,f5⟩;have F5:=F4.trans f5;have V5:=hid (V4.out.fr f5 (by simp));obtain⟨d0_5,d1_5,d2_5,d3_5,d4_5⟩:=five V5.out;go_wp2;go_ret;rw[E.out];exact⟨rfl,F5⟩
         ·rw[if_neg (by simp)] at hE;have E:=hid hE;clear hE hk hm0 k3;go_enter Tryz.func115,Tryz.ntmps115;go_wp2_with fail;refine(I.out _).mono ?_;rintro e w1 ⟨rfl,rfl⟩;go_wp2_with fail;refine(Bq.out _ F0).mono ?_;rintro e w1 ⟨rfl,f1⟩;have F1:=F0.trans f1;have V1:=hid (V0.out.fr f1 (by simp));obtain⟨d0_1,d1_1,d2_1,d3_1,d4_1⟩:=five V1.out;go_wp2_with fail;refine(M.out _ F1).mono ?_;rintro e w2 ⟨rfl,f2⟩;have F2:=F1.trans f2;have V2:=hid (V1.out.fr f2 (by simp));obtain⟨d0_2,d1_2,d2_2,d3_2,d4_2⟩:=five V2.out;go_wp2_with fail;refine(M.out _ F2).mono ?_;rintro e w3 ⟨rfl,f3⟩;have F3:=F2.trans f3;have V3:=hid (V2.out.fr f3 (by simp));obtain⟨d0_3,d1_3,d2_3,d3_3,d4_3⟩:=five V3.out;go_wp2_with fail;refine(G.out _ F3).mono ?_;rintro e w4 ⟨rfl,f4⟩;have F4:=F3.trans f4;have V4:=hid (V3.out.fr f4 (by simp));obtain⟨d0_4,d1_4,d2_4,d3_4,d4_4⟩:=five V4.out;go_wp2_with fail;refine(RP.out _ F4).mono ?_;rintro e w5 ⟨rfl,f5⟩;have F5:=F4.trans f5;have V5:=hid (V4.out.fr f5 (by simp));obtain⟨d0_5,d1_5,d2_5,d3_5,d4_5⟩:=five V5.out;go_wp2_with fail;refine(SC.out _ F5).mono ?_;rintro e w6 ⟨rfl,f6⟩;have F6:=F5.trans f6;have V6:=hid (V5.out.fr f6 (by simp));obtain⟨d0_6,d1_6,d2_6,d3_6,d4_6⟩:=five V6.out;go_wp2;go_ret;rw[E.out];exact⟨rfl,F6⟩
        ·have q4:(k==4)=false:=by simpa using k4
         rw[if_neg (by simp[k3,k4])] at hE;have E:=hid hE;clear hE hk hm0 k3 k4;go_enter Tryz.func115,Tryz.ntmps115;go_wp2_with fail;refine(I.out _).mono ?_;rintro e w1 ⟨rfl,rfl⟩;go_wp2_with fail;refine(Bq.out _ F0).mono ?_;rintro e w1 ⟨rfl,f1⟩;have F1:=F0.trans f1;have V1:=hid (V0.out.fr f1 (by simp));obtain⟨d0_1,d1_1,d2_1,d3_1,d4_1⟩:=five V1.out;go_wp2_with fail;refine(M.out _ F1).mono ?_;rintro e w2 ⟨rfl,f2⟩;have F2:=F1.trans f2;have V2:=hid (V1.out.fr f2 (by simp));obtain⟨d0_2,d1_2,d2_2,d3_2,d4_2⟩:=five V2.out;go_wp2_with fail;refine(M.out _ F2).mono ?_;rintro e w3 ⟨rfl,f3⟩;have F3:=F2.trans f3;have V3:=hid (V2.out.fr f3 (by simp));obtain⟨d0_3,d1_3,d2_3,d3_3,d4_3⟩:=five V3.out;go_wp2_with fail;refine(G.out _ F3).mono ?_;rintro e w4 ⟨rfl,f4⟩;have F4:=F3.trans f4;have V4:=hid (V3.out.fr f4 (by simp));obtain⟨d0_4,d1_4,d2_4,d3_4,d4_4⟩:=five V4.out;go_wp2_with fail;refine(SC.out _ F4).mono ?_;rintro e w5 ⟨rfl,f5⟩;have F5:=F4.trans f5;have V5:=hid (V4.out.fr f5 (by simp));obtain⟨d0_5,d1_5,d2_5,d3_5,d4_5⟩:=five V5.out;go_wp2;go_ret;rw[E.out];exact⟨rfl,F5⟩
      ·rw[if_pos (.inr rfl)] at hE;have E:=hid hE;clear hE hk hm0;go_enter Tryz.func115,Tryz.ntmps115;go_wp2_with fail;refine(I.out _).mono ?_;rintro e w1 ⟨rfl,rfl⟩;go_wp2_with fail;refine(Bq.out _ F0).mono ?_;rintro e w1 ⟨rfl,f1⟩;have F1:=F0.trans f1;have V1:=hid (V0.out.fr f1 (by simp));obtain⟨d0_1,d1_1,d2_1,d3_1,d4_1⟩:=five V1.out;go_wp2_with fail;refine(M.out _ F1).mono ?_;rintro e w2 ⟨rfl,f2⟩;have F2:=F1.trans f2;have V2:=hid (V1.out.fr f2 (by simp));obtain⟨d0_2,d1_2,d2_2,d3_2,d4_2⟩:=five V2.out;go_wp2_with fail;refine(M.out _ F2).mono ?_;rintro e w3 ⟨rfl,f3⟩;have F3:=F2.trans f3;have V3:=hid (V2.out.fr f3 (by simp));obtain⟨d0_3,d1_3,d2_3,d3_3,d4_3⟩:=five V3.out;go_wp2_with fail;refine(G.out _ F3).mono ?_;rintro e w4 ⟨rfl,f4⟩;have F4:=F3.trans f4;have V4:=hid (V3.out.fr f4 (by simp));obtain⟨d0_4,d1_4,d2_4,d3_4,d4_4⟩:=five V4.out;go_wp2;go_ret;rw[E.out];exact⟨rfl,F4⟩
 ·rw[if_pos hk] at hE;have q1:(decide (1≤k)&&decide (k≤5))=false:=by simp;omega
  rw[q1] at I;have E:=hid hE;clear hE hk q1;go_enter Tryz.func115,Tryz.ntmps115;go_wp2_with fail;refine(I.out _).mono ?_;rintro e w1 ⟨rfl,rfl⟩;go_wp2;go_ret;rw[E.out];exact⟨rfl,F0⟩
theorem nilOf{t:ByteArray}(h:t.size=0):t=⟨#[]⟩:=by
 cases t with
 | mk d=>
  congr 1;exact Array.eq_empty_of_size_eq_zero h
theorem neNil{t:ByteArray}(h:¬t.size=0):(t.toList != [])=true∧t.toList.isEmpty=false:=by
 have:=q05 t;rw[show ByteArray.toList ⟨#[]⟩=[] from by decide +kernel,decide_eq_false h] at this;have h2:t.toList≠[]:=by simpa using this
 exact⟨by simpa using h2,by simpa using h2⟩
theorem z3h:(prog.info? 9).map (fun i=>(i.zero,i.size,i.bytes))=some (some (.string ⟨#[]⟩),1,16):=by kernel_rfl
theorem z9h:(prog.info? 108).map (fun i=>(i.zero,i.size,i.bytes))=some (some (.agg #[.string ⟨#[]⟩,.string ⟨#[]⟩]),2,32):=by kernel_rfl
theorem z6e:(prog.info? 113).map (fun i=>(i.zero,i.size,i.bytes))=some (some (.agg #[.int .i64 0,.string ⟨#[]⟩]),2,24):=by kernel_rfl
def z0q(w:World)(base:Nat)(v:Value)(x:Itm):Prop:=
 ∃v1 v2 v3,v=.agg #[.int .i64 x.kind,.string x.text,v1,v2,v3]∧w.ownsRow base 9 1 v1 x.list.length (z04 x.list)∧w.ownsRow base 108 2 v2 x.pairs.length (z0f x.pairs)∧w.ownsRow base 113 2 v3 x.scores.length (z07 x.scores)
theorem z7k{w:World}{B size n:Nat}{v:Value}{xs:List Value}(h:Sl w B size v n xs):∃A c,v=.slice A n c:=by
 obtain⟨A,c,e,_⟩:=h;exact⟨A,c,e⟩
theorem z0q.item{w:World}{base:Nat}{v:Value}{x:Itm}(h:z0q w base v x):z0r w w.heap.size v x:=by
 obtain⟨v1,v2,v3,rfl,o1,o2,o3⟩:=h;have s1:=z0s o1;have s2:=z0s o2;have s3:=z0s o3;obtain⟨A1,c1,rfl⟩:=z7k s1;obtain⟨A2,c2,rfl⟩:=z7k s2;obtain⟨A3,c3,rfl⟩:=z7k s3;exact⟨A1,c1,A2,c2,A3,c3,rfl,s1,s2,s3⟩
theorem z16{w:World}{base base' e size n:Nat}{v:Value}{xs:List Value}(h:w.ownsRow base e size v n xs)(hb:base'≤base):w.ownsRow base' e size v n xs:=by
 refine⟨h.1,?_⟩;rcases h.2 with hz|⟨g,cap,cur,rfl,hbg,rest⟩
 ·exact .inl hz
 ·exact .inr ⟨g,cap,cur,rfl,by omega,rest⟩
theorem z0q.nothing(w:World)(base:Nat):z0q w base (.agg #[.int .i64 0,.string ⟨#[]⟩,.slice none 0 0,.slice none 0 0,.slice none 0 0]) (z2p 0):=
 ⟨_,_,_,rfl,World.ownsRow_nil _ _ _ _,⟨rfl,.inl ⟨rfl,rfl⟩⟩,⟨rfl,.inl ⟨rfl,rfl⟩⟩⟩
theorem z12{w:World}{g t:Nat}{a b c d e:Value}(h:Whole w g t [a,b,c,d,e]):
  w.frozen? ⟨g,0,none⟩=false∧w.frozen? ⟨g,1,none⟩=false∧w.frozen? ⟨g,2,none⟩=false∧w.frozen? ⟨g,3,none⟩=false∧w.frozen? ⟨g,4,none⟩=false:=
 ⟨h.frozen 0,h.frozen 1,h.frozen 2,h.frozen 3,h.frozen 4⟩
theorem z1c(n:Nat)(hn:n < 256):(z2p n).Small:=
 ⟨⟨by show -9223372036854775808≤(n:Int);omega,by show(n:Int)≤9223372036854775807;omega⟩,by show(0:Nat)≤_;omega,by show(0:Nat)≤_;omega,by show(0:Nat)≤_;omega,by show(0:Nat)≤_;omega,fun s hs=>absurd hs (by simp[z2p]),fun s hs=>absurd hs (by simp[z2p]),fun s hs=>absurd hs (by simp[z2p])⟩
def zt1(w:World)(o:Nat)(a b c d e:Value):World:=((((w.setCell ⟨o,0,none⟩ a).setCell ⟨o,1,none⟩ b).setCell ⟨o,2,none⟩ c).setCell ⟨o,3,none⟩ d).setCell ⟨o,4,none⟩ e
theorem zuu{w:World}{base e0 size n:Nat}{v:Value}{xs:List Value}{o T:Nat}{cs:List Value}(h:w.ownsRow base e0 size v n xs)(hw:Whole w o T cs)(hT:T≠e0)(a b c d e:Value):(zt1 w o a b c d e).ownsRow base e0 size v n xs:=by
 have hn:=zae h hw hT;exact z22 _ (z22 _ (z22 _ (z22 _ (z22 _ h hn) hn) hn) hn) hn
structure zwl(x:Itm):Prop where
 kind:1≤x.kind∧x.kind≤5
 bare:z6k x=true
 many:many x≤24
 text:x.text.size≤60
 texts:∀s∈x.list,s.size≤60
 fields:∀p∈x.pairs,p.1.size≤60∧p.2.size≤60
 members:∀p∈x.scores,z0i p.1=true∧p.2.size≤60
theorem zgu{l:List (Int×ByteArray)}(h:z1h l=0):(∀p∈l,z0i p.1=true)∧(l.map (·.2)).Nodup∧rises ltC l=true:=by
 unfold z1h at h;by_cases h1:(l.any fun p=>!z0i p.1)=true
 ·rw[if_pos h1] at h;cases h
 ·rw[if_neg h1] at h;by_cases h2:¬(l.map (·.2)).Nodup
  ·rw[if_pos h2] at h;cases h
  ·rw[if_neg h2] at h;by_cases h3:rises ltC l=true
   ·refine⟨fun p hp=>?_,Decidable.not_not.1 h2,h3⟩
    have h1':(l.any fun p=>!z0i p.1)=false:=by
     cases hc:(l.any fun p=>!z0i p.1) with
     | false=>rfl
     | true=>exact absurd hc h1
    have:=List.any_eq_false.1 h1' p hp;simpa using this
   ·rw[if_neg h3] at h;cases h
theorem z4x{x:Itm}(h:z0e x=0):zwl x:=by
 unfold z0e at h;by_cases h1:¬(1≤x.kind∧x.kind≤5)
 ·rw[if_pos h1] at h;cases h
 rw[if_neg h1] at h;by_cases h2:z6k x=false
 ·rw[if_pos h2] at h;cases h
 rw[if_neg h2] at h;have hb:z6k x=true:=by simpa using h2
 have hform:=hb;simp only[z6k,Bool.and_eq_true,Bool.or_eq_true,beq_iff_eq] at hform;by_cases h3:x.kind=1
 ·rw[if_pos h3] at h;by_cases h4:60 < x.text.size
  ·rw[if_pos h4] at h;cases h
  ·have l1:x.list.length=0:=by omega
   have l2:x.pairs.length=0:=by omega
   have l3:x.scores.length=0:=by omega
   refine⟨Decidable.not_not.1 h1,hb,by unfold Go.Proofs.YtmalkppcahogjaaGreatDoor.many;omega,by omega,?_,?_,?_⟩
   ·rw[List.eq_nil_of_length_eq_zero l1];intro s hs;cases hs
   ·rw[List.eq_nil_of_length_eq_zero l2];intro s hs;cases hs
   ·rw[List.eq_nil_of_length_eq_zero l3];intro s hs;cases hs
 rw[if_neg h3] at h;by_cases h4:Go.Proofs.YtmalkppcahogjaaGreatDoor.many x=0
 ·rw[if_pos h4] at h;cases h
 rw[if_neg h4] at h;by_cases h5:24 < Go.Proofs.YtmalkppcahogjaaGreatDoor.many x∨z97 x=true
 ·rw[if_pos h5] at h;cases h
 rw[if_neg h5] at h;by_cases h6:(x.kind=3∧rises ltS x.list=false)∨(x.kind=4∧rises ltP x.pairs=false)
 ·rw[if_pos h6] at h;cases h
 rw[if_neg h6] at h;have hs:=zgu h;have hl:z97 x=false:=by simpa using fun e=>h5 (.inr e)
 unfold z97 at hl;simp only[Bool.or_eq_false_iff] at hl;refine⟨Decidable.not_not.1 h1,hb,by omega,by omega,?_,?_,?_⟩
 ·intro s hs;have:=List.any_eq_false.1 hl.1.1 s hs;simp[z4h] at this;exact this
 ·intro p hp;have:=List.any_eq_false.1 hl.1.2 p hp;simp[z4n] at this;exact this
 ·intro p hp;have:=List.any_eq_false.1 hl.2 p hp;simp[z8l] at this;exact⟨hs.1 p hp,this⟩
def Ahead{α:Type}(a b:List α)(m:Nat):Prop:=∀j,j < m→a[j]? = b[j]?
theorem zar{α:Type}(a b:List α):Ahead a b 0:=fun j hj=>absurd hj (Nat.not_lt_zero _)
theorem zal{α:Type}{a b:List α}{m:Nat}{s:α}(h:Ahead a b m)(ha:a[m]? = some s)(hb:b[m]? = some s):Ahead a b (m+1):=by
 intro j hj;rcases Nat.lt_or_ge j m with h1|h1
 ·exact h j h1
 ·have e:j=m:=by omega
  rw[e,ha,hb]
theorem zd0{α:Type}{a b:List α}{m:Nat}(h:Ahead a b m)(ha:a.length≤m)(hl:a.length=b.length):a=b:=by
 apply List.ext_getElem?;intro j;rcases Nat.lt_or_ge j m with h1|h1
 ·exact h j h1
 ·rw[List.getElem?_eq_none (by omega),List.getElem?_eq_none (by omega)]
theorem zgr{α:Type}{a b:List α}{m:Nat}{s t:α}(ha:a[m]? = some s)(hb:b[m]? = some t)(hne:s≠t):a≠b:=by
 rintro rfl;rw[ha] at hb;injection hb with hb
 exact hne hb
def ze8(a b:List ByteArray):Bool:=decide (a=b)
theorem q0f{s t:ByteArray}(h:s≠t):(s.toList==t.toList)=false∧(s.toList != t.toList)=true:=by
 have:=eqB s t;rw[decide_eq_false h] at this;exact⟨this,by rw[bne,this];rfl⟩
theorem zyy(s:ByteArray):(s.toList==s.toList)=true∧(s.toList != s.toList)=false:=by
 have:=eqB s s;rw[decide_eq_true rfl] at this;exact⟨this,by rw[bne,this];rfl⟩
theorem za5(a b:List ByteArray)(A1 A2:Option Addr)(c1 c2 B:Nat)(w:World)(la:a.length≤281474976710656)(lb:b.length≤281474976710656)(hB:B≤w.heap.size)
  (h1:Sl w B 1 (.slice A1 a.length c1) a.length (z04 a)) (h2:Sl w B 1 (.slice A2 b.length c2) b.length (z04 b)):
  Calls prog 111 #[.slice A1 a.length c1,.slice A2 b.length c2] w fun e w'=>e=.returned (.bool (ze8 a b))∧Fr [] w w':=by
 have H1:=hid h1;have H2:=hid h2;clear h1 h2;by_cases hl:a.length=b.length
 ·have HL:=hid hl;have q1:((a.length:Int) != (b.length:Int))=false:=by simp[hl]
  have hle:b.length≤a.length:=by omega
  have hle2:a.length≤b.length:=by omega
  clear hl;go_enter Tryz.func111,Tryz.ntmps111;go_wp2;clear q1;go_loopg [5] a.length (fun g i wr=>∃(m:Nat),g=a.length - m∧i=.int .i64 m∧m≤a.length∧Ahead a b m∧Fr [] w wr)
  case atStart=>exact⟨0,rfl,rfl,Nat.zero_le _,zar _ _,Fr.refl _ _⟩
  case round=>
   obtain⟨m,rfl,rfl,hm,hA,hf⟩:=hrel;have HA:=hid hA;clear hA;by_cases hlt:m < a.length
   ·obtain⟨s,hs⟩:∃s,a[m]? = some s:=⟨_,List.getElem?_eq_getElem hlt⟩;obtain⟨t,ht⟩:∃t,b[m]? = some t:=⟨_,List.getElem?_eq_getElem (by omega)⟩;obtain⟨g1,o1,rfl,hb1,hc1,hm1,hcell1⟩:=H1.out.at_ (by omega);obtain⟨g2,o2,rfl,hb2,hc2,hm2,hcell2⟩:=H2.out.at_ (by omega);have x1:wr.cell? ⟨g1,o1+m,none⟩=some (.string s):=hf.cell (hcell1 m _ (z1b a m s hs)) (by simp);have x2:wr.cell? ⟨g2,o2+m,none⟩=some (.string t):=hf.cell (hcell2 m _ (z1b b m t ht)) (by simp);have hlt2:m < b.length:=by omega
    by_cases e:s=t
    ·subst e;obtain⟨q1,q2⟩:=zyy s;have N:=hid (zal HA.out hs ht);clear hcell1 hcell2 hs ht;go_wp2;go_quiet (fail);go_wp2;go_roundg (a.length - (m+1))
     case measure=>omega
     case rel=>exact⟨m+1,rfl,rfl,by omega,N.out,hf.drewN _⟩
    ·obtain⟨q1,q2⟩:=q0f e;have N:=hid (show ze8 a b=false from decide_eq_false (zgr hs ht e));clear hcell1 hcell2 hs ht e;go_wp2;go_quiet (fail);go_wp2;go_ret;rw[N.out];exact⟨rfl,hf.drewN _⟩
   ·have N:=hid (show ze8 a b=true from decide_eq_true (zd0 HA.out (by omega) HL.out));go_wp2;go_ret;rw[N.out];exact⟨rfl,hf⟩
 ·have N:=hid (show ze8 a b=false from decide_eq_false (fun e=>hl (by rw[e])));have q1:((a.length:Int) != (b.length:Int))=true:=by simp;omega
  clear hl;go_enter Tryz.func111,Tryz.ntmps111;go_wp2;go_ret;rw[N.out];exact⟨rfl,Fr.refl _ _⟩
def z98(x y:Itm):Bool:=decide (x.kind=y.kind)&&decide (x.text=y.text)&&ze8 x.list y.list&&decide (x.pairs=y.pairs)&&decide (x.scores=y.scores)
theorem zrr{x y:Itm}:z98 x y=true↔x=y:=by
 constructor
 ·intro h;simp only[z98,ze8,Bool.and_eq_true,decide_eq_true_eq] at h;cases x;cases y
  simp_all
 ·rintro rfl;simp[z98,ze8]
theorem zny(x:Itm):z98 x x=true:=zrr.2 rfl
structure Bx2(w:World)(cs ds:List Value)(wr:World):Prop where
 b1:Whole wr w.heap.size 65 cs
 b2:Whole wr (w.heap.size+1) 65 ds
 fr:Fr [] w wr
theorem Bx2.step{w wr w1:World}{cs ds:List Value}(h:Bx2 w cs ds wr)(f:Fr [] wr w1):Bx2 w cs ds w1:=⟨h.b1.fr f (by simp),h.b2.fr f (by simp),h.fr.trans f⟩
theorem Bx2.start(w:World)(cs ds:List Value):Bx2 w cs ds ((w.alloc (.cells cs.toArray 65)).alloc (.cells ds.toArray 65)):=by
 refine⟨(Whole.new w _ _).alloc _,?_,((Fr.refl [] w).alloc _).alloc _⟩;have:=Whole.new (w.alloc (.cells cs.toArray 65)) 65 ds;simpa using this
theorem zic(x y:Itm)(v u:Value)(w:World)(B:Nat)(hx:x.Small)(hy:y.Small)(hB:B≤w.heap.size)(h:z0r w B v x)(k:z0r w B u y):
  Calls prog 102 #[v,u] w fun e w'=>e=.returned (.bool (z98 x y))∧Fr [] w w':=by
 obtain⟨A1,c1,A2,c2,A3,c3,rfl,h1,h2,h3⟩:=h;obtain⟨D1,e1,D2,e2,D3,e3,rfl,k1,k2,k3⟩:=k;have T:=hid (fun W (hf:Fr [] w W)=>za5 x.list y.list A1 D1 c1 e1 B W hx.list hy.list (Nat.le_trans hB hf.size) (h1.fr hf hB (by simp)) (k1.fr hf hB (by simp)));have S0:=hid (Bx2.start w [.int .i64 x.kind,.string x.text,.slice A1 x.list.length c1,.slice A2 x.pairs.length c2,.slice A3 x.scores.length c3] [.int .i64 y.kind,.string y.text,.slice D1 y.list.length e1,.slice D2 y.pairs.length e2,.slice D3 y.scores.length e3]);have H2:=hid h2;have H3:=hid h3;have K2:=hid k2;have K3:=hid k3;have s2:=hx.pairs;have s3:=hx.scores;have t2:=hy.pairs;have t3:=hy.scores;have hS:z98 x y=(decide (x.kind=y.kind)&&decide (x.text=y.text)&&ze8 x.list y.list&&decide (x.pairs=y.pairs)&&decide (x.scores=y.scores)):=rfl;have HS:=hid hS;clear hS h1 h2 h3 k1 k2 k3 hx hy;by_cases ek:x.kind=y.kind
 ·by_cases et:x.text=y.text
  ·have qk:(x.kind != y.kind)=false:=by simp[ek]
   have qt:x.text.toList=y.text.toList:=by rw[et]
   have HEK:=hid ek;have HET:=hid et;clear ek et;cases el:ze8 x.list y.list
   ·have E:=hid (show z98 x y=false by rw[HS.out,el];simp);rw[el] at T;clear el;go_enter Tryz.func102,Tryz.ntmps102;go_wp2_with fail;refine(T.out _ S0.out.fr).mono ?_;rintro e w1 ⟨rfl,g1⟩;have S1:=hid (S0.out.step g1);go_wp2;go_ret;rw[E.out];exact⟨rfl,S1.out.fr⟩
   ·rw[el] at T;have HEL:=hid el;clear el;by_cases el:x.pairs.length=y.pairs.length
    ·have q_pairs:((x.pairs.length:Int) != (y.pairs.length:Int))=false:=by simp[el]
     have HL_pairs:=hid el;have le_pairs:x.pairs.length≤y.pairs.length:=by omega
     clear el;by_cases el:x.scores.length=y.scores.length
     ·have q_scores:((x.scores.length:Int) != (y.scores.length:Int))=false:=by simp[el]
      have HL_scores:=hid el;have le_scores:x.scores.length≤y.scores.length:=by omega
      clear el;go_enter Tryz.func102,Tryz.ntmps102;go_wp2_with fail;refine(T.out _ S0.out.fr).mono ?_;rintro e w1 ⟨rfl,g1⟩;have S1:=hid (S0.out.step g1);obtain⟨d0,d1,d2,d3,d4⟩:=five S1.out.b1;obtain⟨f0,f1,f2,f3,f4⟩:=five S1.out.b2;go_wp2;clear d0 d1 d2 d3 d4 f0 f1 f2 f3 f4 qk qt q_pairs q_scores g1;go_loopg [5] x.pairs.length (fun g i wr=>∃(m:Nat),g=x.pairs.length - m∧i=.int .i64 m∧m≤x.pairs.length∧Ahead x.pairs y.pairs m∧Bx2 w [.int .i64 x.kind,.string x.text,.slice A1 x.list.length c1,.slice A2 x.pairs.length c2,.slice A3 x.scores.length c3] [.int .i64 y.kind,.string y.text,.slice D1 y.list.length e1,.slice D2 y.pairs.length e2,.slice D3 y.scores.length e3] wr)
      case atStart=>exact⟨0,rfl,rfl,Nat.zero_le _,zar _ _,S1.out⟩
      clear S1
      case round=>
      obtain⟨m,rfl,rfl,hm,hA,hS⟩:=hrel;have HA:=hid hA;have SB:=hid hS;clear hA hS;obtain⟨d0,d1,d2,d3,d4⟩:=five SB.out.b1;obtain⟨f0,f1,f2,f3,f4⟩:=five SB.out.b2;by_cases hlt:m < x.pairs.length
      ·obtain⟨s,hs⟩:∃s,x.pairs[m]? = some s:=⟨_,List.getElem?_eq_getElem hlt⟩;obtain⟨t,ht⟩:∃t,y.pairs[m]? = some t:=⟨_,List.getElem?_eq_getElem (by omega)⟩;obtain⟨g1,o1,eq1,hb1,hc1,hm1,hcell1⟩:=H2.out.at_ (by omega);obtain⟨g2,o2,eq2,hb2,hc2,hm2,hcell2⟩:=K2.out.at_ (by omega);have x1:wr.cell? ⟨g1,o1+2 * m,none⟩=some (.string s.1):=SB.out.fr.cell (hcell1 _ _ (z0l _ m s hs).1) (by simp);have y1:wr.cell? ⟨g1,o1+2 * m+1,none⟩=some (.string s.2):=SB.out.fr.cell (hcell1 _ _ (z0l _ m s hs).2) (by simp);have x2:wr.cell? ⟨g2,o2+2 * m,none⟩=some (.string t.1):=SB.out.fr.cell (hcell2 _ _ (z0l _ m t ht).1) (by simp);have y2:wr.cell? ⟨g2,o2+2 * m+1,none⟩=some (.string t.2):=SB.out.fr.cell (hcell2 _ _ (z0l _ m t ht).2) (by simp);rw[Nat.mul_comm 2 m] at x1 x2 y1 y2;rw[eq1] at d3;rw[eq2] at f3;clear eq1 eq2;have hlt2:m < y.pairs.length:=by omega
       by_cases e:s=t
       ·subst e;obtain⟨q1,q2⟩:=zyy s.1;obtain⟨q3,q4⟩:=zyy s.2;have N:=hid (zal HA.out hs ht);clear hcell1 hcell2 hs ht;go_wp2;go_quiet (fail);go_wp2;go_roundg (x.pairs.length - (m+1))
        case measure=>omega
        case rel=>exact⟨m+1,rfl,rfl,by omega,N.out,SB.out.step (Fr.drewN_of _ _ _)⟩
       ·have E:=hid (show z98 x y=false by rw[HS.out,decide_eq_false (zgr hs ht e)];simp)
        have hor:s.1≠t.1∨(s.1=t.1∧s.2≠t.2):=by
         by_cases h:s.1=t.1
         ·exact .inr ⟨h,fun h2=>e (Prod.ext h h2)⟩
         ·exact .inl h
        clear hcell1 hcell2 hs ht e;rcases hor with hne|⟨he,hne⟩
        ·obtain⟨q1,q2⟩:=q0f hne;clear hne;go_wp2;go_quiet (fail);go_wp2;go_ret;rw[E.out];exact⟨rfl,(SB.out.step (Fr.drewN_of _ _ _)).fr⟩
        ·obtain⟨q1,q2⟩:=q0f hne;have q3:(s.1.toList==t.1.toList)=true:=by rw[he];exact(zyy _).1
         clear hne he;go_wp2;go_quiet (fail);go_wp2;go_ret;rw[E.out];exact⟨rfl,(SB.out.step (Fr.drewN_of _ _ _)).fr⟩
      have E_pairs:=hid (zd0 HA.out (by omega) HL_pairs.out);go_wp2;clear d0 d1 d2 d3 d4 f0 f1 f2 f3 f4 hlt hm HA;go_loopg [6] x.scores.length (fun g i wr=>∃(m:Nat),g=x.scores.length - m∧i=.int .i64 m∧m≤x.scores.length∧Ahead x.scores y.scores m∧Bx2 w [.int .i64 x.kind,.string x.text,.slice A1 x.list.length c1,.slice A2 x.pairs.length c2,.slice A3 x.scores.length c3] [.int .i64 y.kind,.string y.text,.slice D1 y.list.length e1,.slice D2 y.pairs.length e2,.slice D3 y.scores.length e3] wr)
      case atStart=>exact⟨0,rfl,rfl,Nat.zero_le _,zar _ _,SB.out⟩
      clear SB
      case round=>
      obtain⟨m,rfl,rfl,hm,hA,hS⟩:=hrel;have HA:=hid hA;have SB:=hid hS;clear hA hS;obtain⟨d0,d1,d2,d3,d4⟩:=five SB.out.b1;obtain⟨f0,f1,f2,f3,f4⟩:=five SB.out.b2;by_cases hlt:m < x.scores.length
      ·obtain⟨s,hs⟩:∃s,x.scores[m]? = some s:=⟨_,List.getElem?_eq_getElem hlt⟩;obtain⟨t,ht⟩:∃t,y.scores[m]? = some t:=⟨_,List.getElem?_eq_getElem (by omega)⟩;obtain⟨g1,o1,eq1,hb1,hc1,hm1,hcell1⟩:=H3.out.at_ (by omega);obtain⟨g2,o2,eq2,hb2,hc2,hm2,hcell2⟩:=K3.out.at_ (by omega);have x1:wr.cell? ⟨g1,o1+2 * m,none⟩=some (.int .i64 s.1):=SB.out.fr.cell (hcell1 _ _ (z0a _ m s hs).1) (by simp);have y1:wr.cell? ⟨g1,o1+2 * m+1,none⟩=some (.string s.2):=SB.out.fr.cell (hcell1 _ _ (z0a _ m s hs).2) (by simp);have x2:wr.cell? ⟨g2,o2+2 * m,none⟩=some (.int .i64 t.1):=SB.out.fr.cell (hcell2 _ _ (z0a _ m t ht).1) (by simp);have y2:wr.cell? ⟨g2,o2+2 * m+1,none⟩=some (.string t.2):=SB.out.fr.cell (hcell2 _ _ (z0a _ m t ht).2) (by simp);rw[Nat.mul_comm 2 m] at x1 x2 y1 y2;rw[eq1] at d4;rw[eq2] at f4;clear eq1 eq2;have hlt2:m < y.scores.length:=by omega
       by_cases e:s=t
       ·subst e;obtain⟨q3,q4⟩:=zyy s.2;have N:=hid (zal HA.out hs ht);clear hcell1 hcell2 hs ht;go_wp2;go_quiet (fail);go_wp2;go_roundg (x.scores.length - (m+1))
        case measure=>omega
        case rel=>exact⟨m+1,rfl,rfl,by omega,N.out,SB.out.step (Fr.drewN_of _ _ _)⟩
       ·have E:=hid (show z98 x y=false by rw[HS.out,decide_eq_false (zgr hs ht e)];simp)
        have hor:s.1≠t.1∨(s.1=t.1∧s.2≠t.2):=by
         by_cases h:s.1=t.1
         ·exact .inr ⟨h,fun h2=>e (Prod.ext h h2)⟩
         ·exact .inl h
        clear hcell1 hcell2 hs ht e;rcases hor with hne|⟨he,hne⟩
        ·have q1:(s.1==t.1)=false:=by simpa using hne
         have q2:(s.1 != t.1)=true:=by simpa using hne
         clear hne;go_wp2;go_quiet (fail);go_wp2;go_ret;rw[E.out];exact⟨rfl,(SB.out.step (Fr.drewN_of _ _ _)).fr⟩
        ·obtain⟨q1,q2⟩:=q0f hne;have q3:(s.1==t.1)=true:=by simpa using he
         clear hne he;go_wp2;go_quiet (fail);go_wp2;go_ret;rw[E.out];exact⟨rfl,(SB.out.step (Fr.drewN_of _ _ _)).fr⟩
      have E_scores:=hid (zd0 HA.out (by omega) HL_scores.out);have E:=hid (show z98 x y=true by rw[HS.out,decide_eq_true HEK.out,decide_eq_true HET.out,HEL.out,decide_eq_true E_pairs.out,decide_eq_true E_scores.out];rfl);go_wp2;go_ret;rw[E.out];exact⟨rfl,SB.out.fr⟩
     ·have q_scores:((x.scores.length:Int) != (y.scores.length:Int))=true:=by simp;omega
      have E:=hid (show z98 x y=false by rw[HS.out,decide_eq_false (show ¬x.scores=y.scores from fun e=>el (by rw[e]))];simp);clear el;go_enter Tryz.func102,Tryz.ntmps102;go_wp2_with fail;refine(T.out _ S0.out.fr).mono ?_;rintro e w1 ⟨rfl,g1⟩;have S1:=hid (S0.out.step g1);obtain⟨d0,d1,d2,d3,d4⟩:=five S1.out.b1;obtain⟨f0,f1,f2,f3,f4⟩:=five S1.out.b2;go_wp2;go_ret;rw[E.out];exact⟨rfl,S1.out.fr⟩
    ·have q_pairs:((x.pairs.length:Int) != (y.pairs.length:Int))=true:=by simp;omega
     have E:=hid (show z98 x y=false by rw[HS.out,decide_eq_false (show ¬x.pairs=y.pairs from fun e=>el (by rw[e]))];simp);clear el;go_enter Tryz.func102,Tryz.ntmps102;go_wp2_with fail;refine(T.out _ S0.out.fr).mono ?_;rintro e w1 ⟨rfl,g1⟩;have S1:=hid (S0.out.step g1);obtain⟨d0,d1,d2,d3,d4⟩:=five S1.out.b1;obtain⟨f0,f1,f2,f3,f4⟩:=five S1.out.b2;go_wp2;go_ret;rw[E.out];exact⟨rfl,S1.out.fr⟩
  ·have qk:(x.kind != y.kind)=false:=by simp[ek]
   have qt:¬x.text.toList=y.text.toList:=by have:=(q0f et).1;simpa using this
   have E:=hid (show z98 x y=false by rw[HS.out,decide_eq_false et];simp);clear ek et;go_enter Tryz.func102,Tryz.ntmps102;go_wp2;go_ret;rw[E.out];exact⟨rfl,S0.out.fr⟩
 ·have qk:(x.kind != y.kind)=true:=by simpa using ek
  have E:=hid (show z98 x y=false by rw[HS.out,decide_eq_false ek];simp);clear ek;go_enter Tryz.func102,Tryz.ntmps102;go_wp2;go_ret;rw[E.out];exact⟨rfl,S0.out.fr⟩
def zu5(x:Itm)(w:World)(e:Ending)(w':World):Prop:=∃v,e=.returned v∧z0q w' w.heap.size v x∧Fr [] w w'
theorem Fr.dr{S:List Nat}{w w':World}(h:Fr S w.drew w'):Fr S w w':=⟨h.os,h.tape,h.output,h.size,h.block⟩
theorem zjj{x:Itm}(h:zwl x):x.Small:=by
 have hm:=h.many;unfold many at hm;have hk:=h.kind;refine⟨by omega,by have:=h.text;omega,by omega,by omega,by omega,fun s hs=>by have:=h.texts s hs;omega,fun p hp=>by have:=h.fields p hp;omega,fun p hp=>?_⟩;have:=h.members p hp;have hi:=this.1;simp only[z0i,Bool.and_eq_true,decide_eq_true_eq] at hi;omega
theorem z52(n:Nat)(xs:List Value)(A:Option Addr)(c:Nat)(w:World)(B:Nat)(hl:n≤1000000)(hB:B≤w.heap.size)(h:Sl w B 1 (.slice A n c) n xs)(h1:∀u∈xs,u.oneCell'=true):
  Calls prog 139 #[.slice A n c] w (z7p 9 1 n xs w):=by
 obtain⟨i0,hi,hz0,hz1,hz2⟩:=info_parts z3h;have q29:∀(w:World) (a:Option Addr) (n c n' c':Nat),(binOp .eql 24 (.slice a n c) (.slice none n' c')).run prog w=.ok (.bool a.isNone) w:=fun w a n c n' c'=>Lib.run_eql_slice_nil w _ _ a n c n' c' Tryz.underlying24;cases A with
 | none=>
  obtain⟨A',c',e,hlx,hc,hm,hr⟩:=h;cases e
  have h0:n=0:=by
   rcases Nat.eq_zero_or_pos n with h0|h0
   ·exact h0
   ·obtain⟨_,_,h,_⟩:=hr h0;cases h
  subst h0;obtain rfl:xs=[]:=List.eq_nil_of_length_eq_zero (by omega);clear hr h1;go_enter Tryz.func139,Tryz.ntmps139;go_wp2;go_ret;exact⟨_,rfl,World.ownsRow_nil _ _ _ _,Fr.refl [] w⟩
 | some ad=>
  have hO:=(World.ownsRow_lit (base:=w.heap.size) (e:=9) (size:=1) w #[] 0 (Nat.le_refl _) (Nat.zero_le _) rfl);have hsl:=h.fr ((Fr.refl [] w).alloc (.cells #[] 9)) hB (by simp);have H1:=hid h1;have HS:=hid hsl;clear h h1 hsl;go_enter Tryz.func139,Tryz.ntmps139;go_wp2_with (at_builtin;refine z0j _ rfl _ _ 24 rfl w.heap.size 9 i0 _ 1 16 Tryz.underlying24 hi hz0 hz1 hz2 rfl (by decide) _ _ _ rfl hO B _ n xs rfl HS.out H1.out ?c1 ?c2 (by simp) ?_)
  case c1=>unfold maxLen;omega
  case c2=>omega
  intro v' w2 hown' hgrow hat;go_wp2;go_ret;refine⟨_,rfl,by simpa using hown',((Fr.refl [] w).alloc _).grown hgrow (fun k hk=>?_)⟩;simp[Value.ownBlock] at hk;subst hk;exact .inr (Nat.le_refl _)
def zkr(g:Nat)(lb:Array Value)(p:ByteArray→Bool)(B:Nat)(w:World):Prop:=
 ∀W (x:ByteArray),FrB [] B w W→Calls prog g (#[.string x]++lb) W fun e w'=>e=.returned (.bool (p x))∧Fr [] W w'
theorem zmu(g:Nat)(lb:Array Value)(eg:∀args w,(callFunc g args).run prog w=.ok (.enter g args) w)(p:ByteArray→Bool)(D:Nat)(l:List ByteArray)(A:Option Addr)(c B:Nat)(w:World)(hp:zkr g lb p D w)(hl:l.length≤281474976710656)(hB:B≤w.heap.size)
  (hsl:Sl w B 1 (.slice A l.length c) l.length (z04 l)):
  Calls prog 190 #[.slice A l.length c,.func (Fn.func g) #[] lb] w fun e w'=>e=.returned (.int .i64 (z34 p l))∧Fr [] w w':=by
 have HS:=hid hsl;have HP:=hid hp;clear hsl hp;go_enter Tryz.func190,Tryz.ntmps190;go_wp2;go_loopg [5,8] l.length (fun g u i wr=>∃(k:Nat),g=l.length - k∧k≤l.length∧i=.int .i64 k∧(∀j t,j < k→l[j]? = some t→p t=false)∧Fr [] w wr)
 case atStart=>exact⟨0,rfl,Nat.zero_le _,rfl,fun j t hj=>absurd hj (Nat.not_lt_zero _),Fr.refl _ _⟩
 case round=>
  obtain⟨k,rfl,hk,rfl,hno,hf⟩:=hrel;by_cases hlt:k < l.length
  ·obtain⟨b,off,rfl,hb,hc,hm,hcell⟩:=HS.out.at_ (by omega);obtain⟨s,hs⟩:∃s,l[k]? = some s:=⟨_,List.getElem?_eq_getElem hlt⟩;have hc1:wr.cell? ⟨b,off+k,none⟩=some (.string s):=hf.cell (hcell k _ (z1b l k s hs)) (by simp);have L:=hid (fun W (hW:Fr [] wr W)=>HP.out W s ((hf.toB D).trans (hW.toB D)));have HF:=hid hf;have F1:=hid (Fr.refl [] wr);by_cases hq:p s=true
   ·have E:=hid (z2i hno hs hq);rw[hq] at L;clear hno hcell hs hq hf;go_wp2_with fail;refine(L.out _ F1.out).mono ?_;rintro e w1 ⟨rfl,h1⟩;go_wp2;go_ret;rw[E.out];exact⟨rfl,HF.out.trans h1⟩
   ·have hq':p s=false:=by simpa using hq
    rw[hq'] at L
    have N:=hid (fun j t (hj:j < k+1) (ht:l[j]? = some t)=>(show p t=false by
     rcases Nat.lt_or_ge j k with h|h
     ·exact hno j t h ht
     ·have e:j=k:=by omega
      subst e;rw[hs] at ht;cases ht;exact hq'))
    clear hno hcell hs hq hq' hf;go_wp2_with fail;refine(L.out _ F1.out).mono ?_;rintro e w1 ⟨rfl,h1⟩;go_wp2;go_roundg (l.length - (k+1))
    case measure=>omega
    case rel=>exact⟨k+1,rfl,by omega,rfl,N.out,HF.out.trans h1⟩
  ·have E:=hid (z33 (q:=p) (l:=l) (fun j t ht=>hno j t (by have:=(List.getElem?_eq_some_iff.1 ht).1;omega) ht));clear hno;go_wp2;go_ret;rw[E.out];exact⟨rfl,hf⟩
def zcx(ys:List ByteArray)(base:Nat)(v:Value)(w:World)(e:Ending)(w':World):Prop:=
 ∃v',e=.returned v'∧w'.ownsRow base 9 1 v' ys.length (z04 ys)∧Fr (z2f v) w w'∧v'.ownBlock=v.ownBlock
theorem zzr:∀w,(zeroValue 9).run prog w=.ok (.string ⟨#[]⟩) w:=fun w=>by kernel_rfl
theorem zhi(g:Nat)(lb:Array Value)(eg:∀args w,(callFunc g args).run prog w=.ok (.enter g args) w)(p:ByteArray→Bool)(D:Nat)(l:List ByteArray)(base:Nat)(v:Value)(w:World)(hp:zkr g lb p D w)(hD:D≤base)(hl:l.length≤1000000)
  (h:w.ownsRow base 9 1 v l.length (z04 l)):
  Calls prog 302 #[v,.func (Fn.func g) #[] lb] w (zcx (l.filter fun x=>!p x) base v w):=by
 obtain⟨A,c,rfl,hA,hc,hm⟩:=z05 h;have I:=hid (zmu g lb eg p D l A c w.heap.size w hp (by omega) (Nat.le_refl _) (z0s h));rcases z6p p l with⟨e1,e2⟩|⟨k0,s0,e1,hk0,hK⟩
 ·rw[e1] at I;have H:=hid h;have E2:=hid e2;clear h e1 e2 hp;go_enter Tryz.func302,Tryz.ntmps302;go_wp2_with fail;refine I.out.mono ?_;rintro e w1 ⟨rfl,h1⟩;go_wp2;go_ret;rw[E2.out];exact⟨_,rfl,z0p H.out h1 (by simp),h1.up,rfl⟩
 ·rw[e1] at I
  obtain⟨gb,rfl⟩:∃gb,A=some ⟨gb,0,none⟩:=by
   rcases hA with rfl|⟨gb,rfl⟩
   ·exfalso;rcases h.2 with⟨_,h0⟩|⟨g',cap',cur,h',_⟩
    ·omega
    ·cases h'
   ·exact⟨gb,rfl⟩
  have hgb:=(h.lt gb rfl);have H:=hid h;have HP:=hid hp;have HK:=hid hK;have hne1:((k0:Int)==-1)=false:=beq_eq_false_iff_ne.2 (by omega);unfold maxLen at hm;clear h hp hK e1 hA;go_enter Tryz.func302,Tryz.ntmps302;go_wp2_with fail;refine I.out.mono ?_;rintro e w1 ⟨rfl,h1⟩;have HF1:=hid h1;clear h1;go_wp2;go_loopg [5,6] (l.length - (k0+1)) (fun gg s5 s6 wr=>∃(i j:Nat) (d:List ByteArray),gg=l.length - j∧s5=.int .i64 i∧s6=.int .i64 j∧Kept p l d i j∧wr.ownsRow base 9 1 (.slice (some ⟨gb,0,none⟩) l.length c) l.length (z04 d)∧Fr [gb] w wr)
  case atStart=>exact⟨k0,k0+1,l,rfl,rfl,by go_num,HK.out,z0p H.out HF1.out (by simp),HF1.out.up⟩
  case round=>
   obtain⟨i,j,d,rfl,rfl,rfl,hK,hO,hF⟩:=hrel;have HK:=hid hK;have HO:=hid hO;have HF:=hid hF;have hij:=hK.lt;have hjl:=hK.le;have hdl:=hK.len;have hsz:=hF.size;clear I HF1;by_cases hlt:j < l.length
   ·obtain⟨s,hs⟩:∃s,l[j]? = some s:=⟨_,List.getElem?_eq_getElem hlt⟩;have hd:d[j]? = some s:=(hK.behind j (Nat.le_refl _)).trans hs;have L:=hid (fun W (hW:Fr [] wr W)=>HP.out W s ((hF.toB D).more (T:=[]) (by intro k hk;simp at hk;subst hk;exact .inr (by omega)) |>.trans (hW.toB D)))
    have HS:=hid hs;have x1:wr.cell? ⟨gb,j,none⟩=some (.string s):=(hO.cellAt j (by omega)).trans (z1b d j s hd);have F1:=hid (Fr.refl [] wr);clear hK hO hF hs hd;by_cases hq:p s=true
    ·rw[hq] at L;have HQ:=hid hq;clear hq;go_wp2_with fail;refine(L.out _ F1.out).mono ?_;rintro e w2 ⟨rfl,h2⟩;have f2:=hid (F1.out.trans h2);clear h2;go_wp2;go_roundg (l.length - (j+1))
     case measure=>omega
     case rel=>exact⟨i,j+1,d,rfl,rfl,by go_num,HK.out.skip HS.out HQ.out,z0p HO.out f2.out (by simp),HF.out.trans f2.out.up⟩
    ·have hq':p s=false:=by simpa using hq
     rw[hq'] at L;have HQ:=hid hq';clear hq hq';obtain⟨s',hs'⟩:∃s',d[i]? = some s':=⟨_,List.getElem?_eq_getElem (by omega)⟩;have HS':=hid hs';clear hs';go_wp2_with fail;refine(L.out _ F1.out).mono ?_;rintro e w2 ⟨rfl,h2⟩;have f2:=hid (F1.out.trans h2);have HO2:=hid (z0p HO.out f2.out (by simp));have y1:w2.cell? ⟨gb,i,none⟩=some (.string s'):=(HO2.out.cellAt i (by omega)).trans (z1b d i s' HS'.out);have z1:w2.frozen? ⟨gb,i,none⟩=false:=HO2.out.frozenAt i;clear h2;go_wp2;go_roundg (l.length - (j+1))
     case measure=>omega
     case rel=>
      have o1:=HO2.out.stored i (.string s);exact⟨i+1,j+1,d.set i s,rfl,by go_num,by go_num,HK.out.keep HS.out HQ.out,by rw[zb0];exact o1.1,(HF.out.trans f2.out.up).setCell (p:=⟨gb,i,none⟩) (.inl (by simp)) _⟩
   ·obtain rfl:j=l.length:=by omega
    have hdone:=hK.done;obtain⟨cur,w0,l0,t0,hb0,_,_,hxl⟩:=z24 hO;obtain⟨zs,hzs⟩:∃zs,zs=(Builtin.zeroCells (Value.cells (.string ⟨#[]⟩)) (l.length - i)).toList:=⟨_,rfl⟩;have hzl:zs.length=(l.length - i) * 1:=by rw[hzs];simp[Builtin.zeroCells,Value.cells]
    have hcl:∀ty,(Builtin.clear_ #[24] ty #[.slice (some ⟨gb,i,none⟩) (l.length - i) (c - i)]).run prog wr=.ok (.tuple #[]) (wr.setCells gb (i) zs):=fun ty=>by
     have:=z3f (P:=prog) wr 24 9 ty (.string ⟨#[]⟩) Tryz.underlying24 zzr (by intro u hu;simp[Value.cells] at hu;rcases hu with rfl|rfl <;> rfl) gb (i) (l.length - i) (c - i) (by omega) (fun t ht=>by
      exact z0n w0 (o:=i) (m:=(l.length - i) * 1) (by omega) t (by simpa[Value.cells] using ht))
     rw[←hzs] at this;exact this
    have W1:=z15 zs (i) wr cur w0 (by omega);have O1:=z2w (cap:=c) (k:=1) (n:=i) (base:=base) W1 (by simp only[List.length_append,List.length_take,List.length_drop,l0,hzl];omega) hb0 (by omega) (by unfold maxLen;omega);rw[List.append_assoc,List.take_append_of_le_length (by rw[List.length_take];omega),List.take_take,Nat.min_eq_left (by omega)] at O1
    have e5:cur.take (i * 1)=z04 (l.filter fun x=>!p x):=by
     rw[←hdone,←zk5,←t0,List.take_take,Nat.min_eq_left (by omega)]
    have e6:i=(l.filter fun x=>!p x).length:=by rw[←hdone,List.length_take];omega
    rw[e5] at O1;have HO1:=hid O1;have HE:=hid e6;have G1:=hid (z08 (g:=gb) zs (i) wr);have hic:i < c:=by omega
    clear hK hO hF w0 l0 t0 hb0 hxl hzs hzl W1 O1 e5 e6 hdone hdl HK HO;go_wp2;go_ret;have e6:=HE.out;refine⟨_,rfl,?_,?_,rfl⟩
    ·rw[←e6];exact HO1.out
    ·exact HF.out.grown G1.out (fun k hk=>by cases hk;exact .inl (by simp))
theorem zcr:(prog.info? 218).map (fun i=>(i.zero,i.size,i.bytes))=some (some (.agg #[.pointer none,.slice none 0 0]),2,32):=by kernel_rfl
theorem zv3:(prog.info? 5).map (fun i=>(i.zero,i.size,i.bytes))=some (some (.int .u8 0),1,1):=by kernel_rfl
section
variable {P:Program} (w:World)
theorem zi2(base:Nat)(t u ty e:TypeId)(i:TypeInfo)(ht:P.underlying t=some (.slice e))(hu:P.underlying u=some .string)(hi:P.info? e=some i)(hz:i.zero=some (.int .u8 0))
  (hsize:i.size=1) (hby:i.bytes=1) (v:Value) (n:Nat) (xs:List Value) (hown:w.ownsRow base e 1 v n xs) (s:ByteArray)
  (h63:n+s.size≤maxLen) (hbytes:n+s.size≤140737488355328) {v':Value} {w':World} (hr:(Builtin.append_ #[t,u] ty #[v,.string s]).run P w=.ok v' w'):
  v'.ownBlock=v.ownBlock∨v'.ownBlock=some w.heap.size:=by
 have hsmall:n+s.size≤9223372036854775807:=by simp only[maxLen] at h63;omega
 have hxl:xs.length=n:=by simpa using hown.1
 rcases hown.2 with⟨rfl,rfl⟩|⟨g,cap,cur,rfl,hbg,hg,hnc,hcm,hcs,htake⟩
 ·by_cases hm:s.size=0
  ·have hf:=Lib.run_firstCells_string (P:=P) w 1 s;rw[hm] at hf;simp[Builtin.append_,run_underlying ht,run_underlying hu,sizeOf,typeInfo,hi,hsize,Builtin.lenOf,hm,hf] at hr;rw[←hr.1];exact .inl rfl
  ·rw[run_append_nil_string (P:=P) w t u ty e i (.int .u8 0) ht hu hi hz s (by omega) (by omega) (by rw[hby];omega)] at hr;cases hr;exact .inr rfl
 ·by_cases hroom:n+s.size≤cap
  ·have hcs':cur.size=cap:=by simpa using hcs
   rw[Lib.run_append_room_string (P:=P) w t u ty e i ht hu hi hsize g n cap cur hg s hroom (by omega)] at hr;cases hr;exact .inl rfl
  ·rw[Lib.run_append_grow_string (P:=P) w t u ty e i (.int .u8 0) ht hu hi hz ⟨g,0,none⟩ n cap xs (by rw[hsize];simpa using hxl) (hown.cells (g:=g) rfl) s (by omega) (by omega) (by rw[hby];exact growslice_fits (by omega) (by omega))] at hr;cases hr;exact .inr rfl
theorem zb8{ops:Array Oper}{rest:List Oper}{o:Oper}{a:Act}{Q:Exit→Act→World→Prop}(hgd:o.guard=none)(sl x:Operand)(t u:TypeId)
  (ho:o.op=.call { callee:=.builtin .append,args:=#[sl,x],argTypes:=#[t,u] })
  (base:Nat) (e:TypeId) (i:TypeInfo) (ht:P.underlying t=some (.slice e)) (hu:P.underlying u=some .string) (hi:P.info? e=some i) (hz:i.zero=some (.int .u8 0))
  (hsize:i.size=1) (hby:i.bytes=1)
  (v:Value) (n:Nat) (xs:List Value) (hs:a.eval sl=v) (hown:w.ownsRow base e 1 v n xs) (s:ByteArray) (hx:a.eval x=.string s)
  (h63:n+s.size≤maxLen) (hbytes:n+s.size≤140737488355328) (hbase:base≤w.heap.size)
  (h:∀v' w',w'.ownsRow base e 1 v' (n+s.size) (xs++Lib.strCells s)→w.grownBy w' v.ownBlock→(v'.ownBlock=v.ownBlock∨v'.ownBlock=some w.heap.size)→wpList P ops Q rest (a.put o.dst v') w'):wpList P ops Q (o :: rest) a w:=by
 refine wpList_plain hgd fun K hK=>?_;obtain⟨v',w',hr,h2,h3,h4⟩:=Lib.run_append_own_string (P:=P) w base t u o.type e i ht hu hi hz hsize hby v n xs hown s h63 hbytes hbase;have h5:=zi2 w base t u o.type e i ht hu hi hz hsize hby v n xs hown s h63 hbytes hr;unfold Oper.wp execOp;simp only[ho,resolve,invoke,builtin,Sem.run_bind,Sem.run_pure,Result.andThen_ok,List.map_toArray,List.map_cons,List.map_nil,hs,hx,hr];exact hK _ _ (h v' w' h2 h3 h5)
end
theorem zvu{S:List Nat}{a b:World}(h:Fr S a b){p:Addr}(hp:p.block∈S)(n:Nat):Fr S a (b.freeze p n):=by
 unfold World.freeze;split
 ·exact h
 ·refine⟨h.os,h.tape,h.output,by simpa using h.size,fun i hi hn=>?_⟩;rw[←h.block i hi hn];have:p.block≠i:=fun e=>hn (e ▸ hp);simp[Array.getElem?_modify,this]
structure ze9(T:TypeId)(g off base:Nat)(own:Option Nat)(cs:List Value)(l:List UInt8)(w:World):Prop where
 whole:Whole w g T cs
 addr:cs[off]? = some (.pointer none)∨cs[off]? = some (.pointer (some ⟨g,off,none⟩))
 buf:∃v,cs[off+1]? = some v∧w.ownsRow base 5 1 v l.length (Lib.byteCells l)∧v.ownBlock=own
 base:base≤g
 ne:T≠5
 lies:liesAt prog prog.depth T (cs.length / prog.cellsOf T) off 218 1=true
theorem zhb{cs:List Value}{i:Nat}{v:Value}(h:cs[i]? = some v):cs.set i v=cs:=by
 obtain⟨hlt,e⟩:=List.getElem?_eq_some_iff.1 h;rw[←e];exact List.set_getElem_self hlt
theorem zee(T g off:Nat)(cs:List Value)(w:World)(hw:Whole w g T cs)(h0:cs[off]? = some (.pointer (some ⟨g,off,none⟩))):
  Calls prog 279 #[.pointer (some ⟨g,off,none⟩)] w fun e w'=>e=.returned (.tuple #[])∧w'=w:=by
 obtain⟨j,hj,_⟩:=Option.map_eq_some_iff.1 zcr;have hc:w.cell? ⟨g,off,none⟩=some (.pointer (some ⟨g,off,none⟩)):=(hw.cell off).trans h0;clear hw h0;go_enter Tryz.func279,Tryz.ntmps279;go_wp2;rw[Lib.run_neq_ptr_same w _ Tryz.underlying216 hj];go_wp2
 go_end0
 exact⟨rfl,rfl⟩
theorem zco(T g off:Nat)(cs:List Value)(w:World)(hw:Whole w g T cs)(h0:cs[off]? = some (.pointer none))
  (hlies:liesAt prog prog.depth T (cs.length / prog.cellsOf T) off 218 1=true):
  Calls prog 279 #[.pointer (some ⟨g,off,none⟩)] w fun e w'=>e=.returned (.tuple #[])∧w'=w.setCell ⟨g,off,none⟩ (.pointer (some ⟨g,off,none⟩)):=by
 obtain⟨j,hj,hjs⟩:=Option.map_eq_some_iff.1 zcr
 have hjz:j.size≠0:=by
  have:j.size=2:=by
   injection hjs with _ h
   injection h
  omega
 have hc:w.cell? ⟨g,off,none⟩=some (.pointer none):=(hw.cell off).trans h0;have hfz:w.frozen? ⟨g,off,none⟩=false:=hw.frozen off;have hlt:off < cs.length:=(List.getElem?_eq_some_iff.1 h0).1
 have hsh:w.shape? (⟨g,off,none⟩:Addr).block=some (T,cs.length):=by
  unfold Whole at hw;simp[World.shape?,hw]
 have HS:=hid hsh;have HL:=hid hlies;have HJ:=hid hjs;clear hw h0 hsh hlies hjs;go_enter Tryz.func279,Tryz.ntmps279;go_wp2;rw[Lib.run_to_unsafe w ⟨g,off,none⟩ Tryz.underlying216 Tryz.underlying322 hj hjz HS.out hlt];simp only[Result.andThen];rw[Oper.upon_value];go_wp2;rw[run_callFunc_extern Tryz.func339 (by kernel_rfl) (by kernel_rfl) (by kernel_rfl) (e:=Extern.AbiNoEscape.same) (by kernel_rfl)];rw[Lib.run_noEscape];simp only[Result.andThen];rw[Oper.upon_value];go_wp2;rw[Lib.run_from_unsafe w ⟨g,off,none⟩ Tryz.underlying322 Tryz.underlying216 hj HS.out HL.out];simp only[Result.andThen];rw[Oper.upon_value];go_wp2
 go_end0
 exact⟨rfl,rfl⟩
theorem zfe{T g off base:Nat}{own:Option Nat}{cs:List Value}{l:List UInt8}{w:World}(h:ze9 T g off base own cs l w):
  Calls prog 279 #[.pointer (some ⟨g,off,none⟩)] w fun e w'=>e=.returned (.tuple #[])∧ze9 T g off base own (cs.set off (.pointer (some ⟨g,off,none⟩))) l w'∧Fr [g] w w':=by
 obtain⟨v,hv,hown,hob⟩:=h.buf;have hoff:off+1 < cs.length:=(List.getElem?_eq_some_iff.1 hv).1;rcases h.addr with h0|h0
 ·refine(zco T g off cs w h.whole h0 h.lies).mono ?_;rintro e w' ⟨rfl,rfl⟩;have hne:=Lib.ownBlock_ne hown h.whole h.ne;exact⟨rfl,⟨h.whole.set_ off _,.inr (List.getElem?_set_self (by omega)),⟨v,by rw[List.getElem?_set_ne (by omega)];exact hv,hown.kept (row:=some g) ⟨rfl,rfl,rfl,by simp[World.setCell],fun k _ hk=>Below.heap_setCell _ _ _ _ (fun e=>hk (by simp[e]))⟩ (Or.inr hne),hob⟩,h.base,h.ne,by rw[List.length_set];exact h.lies⟩,(Fr.refl [g] w).setCell (p:=⟨g,off,none⟩) (.inl (by simp)) _⟩
 ·refine(zee T g off cs w h.whole h0).mono ?_;rintro e w' ⟨rfl,rfl⟩;rw[zhb h0];exact⟨rfl,h,Fr.refl _ _⟩
def Wrote(T g off base:Nat)(own:Option Nat)(cs:List Value)(l:List UInt8)(w w':World):Prop:=
 ∃own' cs',ze9 T g off base own' cs' l w'∧cs'.length=cs.length∧(∀i,i≠off→i≠off+1→cs'[i]? = cs[i]?)∧(own'=own∨∃k,own'=some k∧w.heap.size≤k)∧Fr (g :: own.toList) w w'
theorem Wrote.of_base{T g off base:Nat}{own:Option Nat}{cs:List Value}{l:List UInt8}{w:World}(h:ze9 T g off base own cs l w):∀k,k∈g :: own.toList→base≤k:=by
 intro k hk;obtain⟨v,_,hown,hob⟩:=h.buf;rcases List.mem_cons.1 hk with rfl|hk
 ·exact h.base
 ·exact(hown.lt k (by rw[hob];simpa using hk)).1
theorem zfn(l m:List UInt8):Lib.byteCells (l++m)=Lib.byteCells l++Lib.byteCells m:=by simp[Lib.byteCells]
theorem zkv(s:ByteArray):Lib.strCells s=Lib.byteCells s.data.toList:=rfl
theorem zdo{T g off base:Nat}{own:Option Nat}{cs:List Value}{l:List UInt8}(s:ByteArray){w:World}(h:ze9 T g off base own cs l w)(hlen:l.length+s.size≤140737488355328)(hB:base≤w.heap.size):
  Calls prog 199 #[.pointer (some ⟨g,off,none⟩),.string s] w fun e w'=>e=.returned (.tuple #[.int .i64 s.size,.nilIface])∧Wrote T g off base own cs (l++s.data.toList) w w':=by
 obtain⟨i0,hi,hz0,hz1,hz2⟩:=info_parts zv3;have HH:=hid h;clear h;go_enter Tryz.func199,Tryz.ntmps199;go_wp2_with fail;refine(zfe HH.out).mono ?_;rintro e w1 ⟨rfl,h1,f1⟩;obtain⟨v,hv,hown,hob⟩:=h1.buf;have hn1:off+1 < cs.length:=by simpa using (List.getElem?_eq_some_iff.1 hv).1
 have c1:w1.cell? ⟨g,off+1,none⟩=some v:=(h1.whole.cell _).trans hv;have H1:=hid h1;have HO:=hid hob;have HV:=hid hv;have hsz:=f1.size;clear h1 hob hv;go_wp2_with (at_builtin;refine zb8 _ rfl _ _ 157 9 rfl base 5 i0 Tryz.underlying157 Tryz.underlying9 hi hz0 hz1 hz2 _ _ _ rfl hown s rfl ?c3 ?c4 ?c5 ?_)
 case c3=>unfold maxLen;omega
 case c4=>omega
 case c5=>omega
 intro v' w2 hown' hgrow hat;have hne:v.ownBlock≠some g:=Lib.ownBlock_ne hown H1.out.whole H1.out.ne;have W2:Whole w2 g T (cs.set off (.pointer (some ⟨g,off,none⟩))):=H1.out.whole.grown hgrow (fun e=>hne e.symm);have d1:w2.cell? ⟨g,off+1,none⟩=some v:=(W2.cell _).trans HV.out;have f2:w2.frozen? ⟨g,off+1,none⟩=false:=W2.frozen _
 obtain⟨ao,n',cap,rfl⟩:∃ao n' cap,v'=.slice ao n' cap:=by
  rcases hown'.2 with⟨hv,_⟩|⟨g,cap,cur,hv,_⟩
  ·exact⟨_,_,_,hv⟩
  ·exact⟨_,_,_,hv⟩
 have HW2:=hid W2;clear W2
 have hat':(Value.slice ao n' cap).ownBlock=own∨∃k,(Value.slice ao n' cap).ownBlock=some k∧w.heap.size≤k:=by
  rcases hat with e|e
  ·exact .inl (e.trans HO.out)
  ·exact .inr ⟨_,e,by omega⟩
 have HA:=hid hat';clear hat hat';go_wp2;go_ret2;have hn2:=Lib.ownBlock_ne hown' HW2.out H1.out.ne;refine⟨rfl,_,_,⟨HW2.out.set_ (off+1) _,.inr ?_,⟨_,?_,?_,rfl⟩,H1.out.base,H1.out.ne,?_⟩,?_,?_,HA.out,?_⟩
 ·rw[List.getElem?_set_ne (by omega)];exact List.getElem?_set_self (by omega)
 ·rw[List.getElem?_set_self (by simp;omega)]
 ·rw[zfn,←zkv];have:=hown'.kept (row:=some g) (w':=w2.setCell ⟨g,off+1,none⟩ (.slice ao n' cap)) ⟨rfl,rfl,rfl,by simp[World.setCell],fun k _ hk=>Below.heap_setCell _ _ _ _ (fun e=>hk (by simp[e]))⟩ (Or.inr hn2);simpa using this
 ·simpa using H1.out.lies
 ·simp
 ·intro i h1 h2;rw[List.getElem?_set_ne (fun e=>h2 e.symm),List.getElem?_set_ne (fun e=>h1 e.symm)]
 ·refine Fr.setCell (p:=⟨g,off+1,none⟩) ?_ (.inl (by simp)) _;refine Fr.grown (f1.more (T:=g :: own.toList) (by intro k hk;simp at hk;exact .inl (by simp[hk]))) hgrow ?_;intro k hk;rw[HO.out] at hk;exact .inl (by simp[hk])
theorem zn6{T g off base:Nat}{own:Option Nat}{cs:List Value}{l:List UInt8}{w:World}(h:ze9 T g off base own cs l w)(h0:l≠[]):
  Calls prog 200 #[.pointer (some ⟨g,off,none⟩)] w fun e w'=>e=.returned (.string ⟨l.toArray⟩)∧Fr own.toList w w':=by
 obtain⟨v,hv,hown,hob⟩:=h.buf;have hl0:l.length≠0:=by simpa using h0
 obtain⟨gb,cap,cur,rfl,hbg,hg,hnc,hcm,hcs,htake⟩:∃gb cap cur,v=.slice (some ⟨gb,0,none⟩) l.length cap∧base≤gb∧w.heap[gb]? = some (.cells cur 5 (0,0))∧l.length≤cap∧cap≤maxLen∧cur.size=cap * 1∧cur.toList.take (l.length * 1)=Lib.byteCells l:=by
  rcases hown.2 with⟨_,hz⟩|⟨gb,cap,cur,hv,r⟩
  ·exact absurd hz hl0
  ·exact⟨gb,cap,cur,hv,r⟩
 have c1:w.drew.cell? ⟨g,off+1,none⟩=some (.slice (some ⟨gb,0,none⟩) l.length cap):=(h.whole.drew.cell _).trans hv;have c2:w.cell? ⟨g,off+1,none⟩=some (.slice (some ⟨gb,0,none⟩) l.length cap):=(h.whole.cell _).trans hv
 have hSD:(Builtin.unsafeSliceData_ #[157] 273 #[.slice (some ⟨gb,0,none⟩) l.length cap]).run prog w.drew=.ok (.pointer (some ⟨gb,0,none⟩)) w.drew:=
  Lib.run_unsafeSliceData_row _ _ _ _ _ _ (by omega)
 have hUS:(Builtin.unsafeString_ #[273,3] 9 #[.pointer (some ⟨gb,0,none⟩),.int .i64 l.length]).run prog w.drew=.ok (.string ⟨l.toArray⟩) (w.drew.freeze ⟨gb,0,none⟩ l.length):=by
  refine Lib.run_unsafeString_row w.drew 273 3 9 5 Tryz.underlying273 (by kernel_rfl) gb cur.size (by have hg':w.drew.heap[gb]? = some (.cells cur 5 (0,0)):=hg;simp[World.shape?,hg']) l h0 (by omega) (by unfold maxLen at hcm;omega) ?_;intro j x hx;have:=hown.cells (g:=gb) rfl j (.int .u8 x.toNat) (by simp[Lib.byteCells,hx]);exact this
 have HO:=hid hob;clear hob h hv hown hg hcs htake h0;go_enter Tryz.func200,Tryz.ntmps200;go_wp2
 go_region
 all_goals
  go_wp2;go_ret;refine⟨rfl,?_⟩;rw[←HO.out];exact zvu (Fr.refl _ _).drew (by simp[Value.ownBlock]) _
end Go.Proofs.YtmalkppcahogjaaGreatDoor
