/- Contracts; no condition but each theorem's own. -/
import Derived.Test.YtmkhmejempcimaaGreatDoorSlU0
import Derived.ChangeArms
import Derived.Deep.DeepCutAuto
import Derived.Deep.LoopGhost
import Derived.Deep.RegionHeld3
import Derived.Deep.Slices
import Derived.Laws.EntriesVeiled
import Derived.Lib.AtoiAll
import Derived.Lib.ItoaNum
import Derived.OpenShut
import Derived.OrdersHeld
import Derived.ProofKit
import Derived.SizedLaws
import Derived.SliceStrings
import Derived.WideShapes
set_option linter.unusedVariables false
set_option linter.unusedSimpArgs false
set_option maxHeartbeats 8000000
set_option maxRecDepth 100000
namespace Go.Proofs.YtmkhmejempcimaaGreatDoor
open Go.Proofs.Tryz (prog)
def zi1{α:Type}(l:List α)(p:α)(j:Nat):List α:=l.take j++p :: l.drop j
theorem z7a{α:Type}(l:List α)(p:α){j:Nat}(h:j≤l.length):(zi1 l p j).length=l.length+1:=by
 unfold zi1;rw[List.length_append,List.length_cons,List.length_take,List.length_drop];omega
end Go.Proofs.YtmkhmejempcimaaGreatDoor
namespace Go.Proofs.YtmkhmejempcimaaGreatDoor
open Go.Proofs.Tryz (prog)
open Go.RowKit
attribute [local go_sem] z0p
attribute [local go_sem] z0p
end Go.Proofs.YtmkhmejempcimaaGreatDoor
namespace Go.Proofs.YtmkhmejempcimaaGreatDoor
open Go.Proofs.Tryz (prog)
def nums(s:ByteArray):List Nat:=s.data.toList.map (·.toNat)
end Go.Proofs.YtmkhmejempcimaaGreatDoor
namespace Go.Proofs.YtmkhmejempcimaaGreatDoor
open Go.Proofs.Tryz (prog)
open Go.Lib
def ze5(c:UInt8):Bool:=decide (48≤c.toNat)&&decide (c.toNat≤57)
def zau(a:Nat)(l:List UInt8):Nat:=l.foldl (fun a c=>a * 10+(c.toNat - 48)) a
def zi3(l:List UInt8):Nat:=zau 0 l
theorem zb0(a:Nat)(l:List UInt8)(c:UInt8):zau a (l++[c])=zau a l * 10+(c.toNat - 48):=by
 unfold zau;rw[List.foldl_append];rfl
theorem zdr:∀(l:List UInt8) (a:Nat),a≤zau a l
 | [],a=>Nat.le_refl _
 | c :: r,a=>by
  have:=zdr r (a * 10+(c.toNat - 48));show a≤zau (a * 10+(c.toNat - 48)) r;omega
theorem zig:∀(l:List UInt8) (a:Nat),(∀c∈l,ze5 c=true)→zau a l < (a+1) * 10 ^ l.length
 | [],a,_=>by show a < (a+1) * 1;omega
 | c :: r,a,h=>by
  have hc:=h c (.head _);unfold ze5 at hc;simp at hc;have:=zig r (a * 10+(c.toNat - 48)) (fun q hq=>h q (.tail _ hq));show zau (a * 10+(c.toNat - 48)) r < (a+1) * 10 ^ (r.length+1);have h2:(a * 10+(c.toNat - 48)+1) * 10 ^ r.length≤((a+1) * 10) * 10 ^ r.length:=Nat.mul_le_mul_right _ (by omega);rw[Nat.pow_succ,Nat.mul_comm (10 ^ r.length) 10,←Nat.mul_assoc];omega
theorem zbn{c:UInt8}(h:ze5 c=true):UInt8.ofNat (48+(c.toNat - 48))=c:=by
 unfold ze5 at h;simp at h;rw[show 48+(c.toNat - 48)=c.toNat by omega];simp
theorem z4u{k:Nat}(h:k < 10):(UInt8.ofNat (48+k)).toNat=48+k:=by
 rw[UInt8.toNat_ofNat'];omega
theorem zal(u:Nat):∀c∈decDigits u,ze5 c=true:=by
 induction u using Nat.strongRecOn with
 | _ u ih=>
  intro c hc;rw[decDigits] at hc;split at hc
  ·rename_i h;rw[List.mem_singleton] at hc;subst hc;unfold ze5;rw[z4u h];simp;omega
  ·rename_i h;rcases List.mem_append.1 hc with hc|hc
   ·exact ih (u / 10) (by omega) c hc
   ·rw[List.mem_singleton] at hc;subst hc;unfold ze5;rw[z4u (Nat.mod_lt _ (by decide))];simp;omega
theorem zdh(u:Nat):zi3 (decDigits u)=u:=by
 induction u using Nat.strongRecOn with
 | _ u ih=>
  rw[decDigits];split
  ·rename_i h;show 0 * 10+((UInt8.ofNat (48+u)).toNat - 48)=u;rw[z4u h];omega
  ·rename_i h;unfold zi3;rw[zb0];have:=ih (u / 10) (by omega);unfold zi3 at this;rw[this,z4u (Nat.mod_lt _ (by decide))];omega
theorem zfa(u:Nat):decDigits u≠[]:=by
 rw[decDigits];split <;> simp
theorem zkp(u:Nat)(hu:0 < u):∃c r,decDigits u=c :: r∧c.toNat≠48:=by
 induction u using Nat.strongRecOn with
 | _ u ih=>
  rw[decDigits];split
  ·rename_i h;exact⟨_,[],rfl,by rw[z4u h];omega⟩
  ·rename_i h;obtain⟨c,r,e,hc⟩:=ih (u / 10) (by omega) (by omega);exact⟨c,r++[UInt8.ofNat (48+u % 10)],by rw[e];rfl,hc⟩
theorem zf0:decDigits 0=[48]:=by rw[decDigits];rfl
theorem zhq:∀(n:Nat) (l:List UInt8),l.length=n→l≠[]→(∀c∈l,ze5 c=true)→(∀c r,l=c :: r→c.toNat=48→r=[])→decDigits (zi3 l)=l
 | 0,l,hn,hne,_,_=>absurd (List.eq_nil_of_length_eq_zero hn) hne
 | n+1,l,hn,hne,hd,hz=>by
  obtain⟨d,c,rfl⟩:∃d c,l=d++[c]:=⟨l.dropLast,l.getLast hne,(List.dropLast_concat_getLast hne).symm⟩;have hc:=hd c (by simp);have hcd:=hc;unfold ze5 at hcd;simp at hcd;unfold zi3;rw[zb0];by_cases h0:d=[]
  ·subst h0;show decDigits (0 * 10+(c.toNat - 48))=[c];rw[decDigits,dif_pos (by omega),Nat.zero_mul,Nat.zero_add,zbn hc]
  ·have hdd:∀q∈d,ze5 q=true:=fun q hq=>hd q (List.mem_append.2 (.inl hq));obtain⟨q,r,rfl⟩:=List.exists_cons_of_ne_nil h0
   have hq48:q.toNat≠48:=fun e=>by
    have:=hz q (r++[c]) rfl e;simp at this
   have hqd:=hdd q (.head _);unfold ze5 at hqd;simp at hqd
   have hpos:1≤zau 0 (q :: r):=by
    have:=zdr r (0 * 10+(q.toNat - 48));show 1≤zau (0 * 10+(q.toNat - 48)) r;omega
   have ih:=zhq n (q :: r) (by simp at hn ⊢;omega) (by simp) hdd (fun c' r' e h48=>by
    injection e with e1 e2
    subst e1;exact absurd h48 hq48)
   unfold zi3 at ih;rw[decDigits,dif_neg (by omega),show(zau 0 (q :: r) * 10+(c.toNat - 48)) / 10=zau 0 (q :: r) by omega,show(zau 0 (q :: r) * 10+(c.toNat - 48)) % 10=c.toNat - 48 by omega,ih,zbn hc]
def znd(neg:Bool)(d:List UInt8):Option Nat:=
 if d.length=0∨9 < d.length∨(d.head? = some 48∧(1 < d.length∨neg=true)) then none else if d.all ze5=true then some (zi3 d) else none
def zcu(l:List UInt8):Option Int:=
 if l.head? = some 45 then (znd true (l.drop 1)).map (fun u:Nat=>-(u:Int)) else (znd false l).map (fun u:Nat=>(u:Int))
theorem zot{c:UInt8}:c.toNat=48↔c=48:=by
 constructor
 ·intro h;apply UInt8.toNat_inj.1;exact h
 ·rintro rfl;rfl
theorem zeo{neg:Bool}{d:List UInt8}{u:Nat}(h:znd neg d=some u):d=decDigits u∧u≤999999999∧(neg=true→0 < u):=by
 unfold znd at h;split at h
 ·cases h
 ·rename_i h1;split at h
  ·rename_i h2;injection h with h
   subst h;rw[List.all_eq_true] at h2;have hne:d≠[]:=fun e=>h1 (.inl (by rw[e];rfl))
   have hlen:d.length≤9:=by
    rcases Nat.lt_or_ge 9 d.length with h|h
    ·exact absurd (.inr (.inl h)) h1
    ·exact h
   have hv:=zhq d.length d rfl hne h2 (fun c r e h48=>by
    rcases Nat.lt_or_ge 1 d.length with hl|hl
    ·exact absurd (.inr (.inr ⟨by rw[e,zot.1 h48];rfl,.inl hl⟩)) h1
    ·rw[e,List.length_cons] at hl;exact List.eq_nil_of_length_eq_zero (by omega))
   have hlt:=zig d 0 h2;have hp:(10:Nat) ^ d.length≤10 ^ 9:=Nat.pow_le_pow_right (by decide) hlen;refine⟨hv.symm,by unfold zi3;omega,fun hneg=>?_⟩;rcases Nat.eq_zero_or_pos (zi3 d) with h0|h0
   ·rw[h0,zf0] at hv;exact absurd (.inr (.inr ⟨by rw[←hv];rfl,.inr hneg⟩)) h1
   ·exact h0
  ·cases h
theorem zmx{u:Nat}(h:u≤999999999):0 < (decDigits u).length∧(decDigits u).length≤9:=by
 refine⟨List.length_pos_iff.2 (zfa u),?_⟩;rw[decDigits_length];rcases Nat.lt_or_ge (nDigits u) 10 with h'|h'
 ·omega
 ·exfalso
  have:∀(k u:Nat),k+1≤nDigits u→0 < u→10 ^ k≤u:=by
   intro k
   induction k with
   | zero=>intro u _ hu;rw[Nat.pow_zero];exact hu
   | succ k ih=>
    intro u hk hu;by_cases h10:u < 10
    ·rw[nDigits_small h10] at hk;omega
    ·rw[nDigits_big h10] at hk;have:=ih (u / 10) (by omega) (by omega);rw[Nat.pow_succ];omega
  have h2:=this 9 u (by omega) (by
   rcases Nat.eq_zero_or_pos u with h0|h0
   ·rw[h0,nDigits_small (by decide)] at h';omega
   ·exact h0)
  omega
theorem zjj{neg:Bool}{u:Nat}(h:u≤999999999)(hn:neg=true→0 < u):znd neg (decDigits u)=some u:=by
 have hl:=zmx h;unfold znd;rw[if_neg,if_pos (List.all_eq_true.2 (zal u)),zdh];rintro(h1|h1|⟨h1,h2⟩)
 ·omega
 ·omega
 ·rcases Nat.eq_zero_or_pos u with h0|h0
  ·rcases h2 with h2|h2
   ·rw[h0,zf0] at h2;simp at h2
   ·have:=hn h2;omega
  ·obtain⟨c,r,e,hc⟩:=zkp u h0;rw[e] at h1;simp at h1;exact hc (zot.2 h1)
theorem zkh(u:Nat):(decDigits u).head? ≠ some 45:=by
 intro h;obtain⟨c,r,e⟩:=List.exists_cons_of_ne_nil (zfa u);rw[e] at h;simp at h;have:=zal u c (by rw[e];exact .head _);rw[h] at this;exact absurd this (by decide)
theorem za5{l:List UInt8}{v:Int}:zcu l=some v↔z17 v=true∧l=itoa v:=by
 unfold zcu;constructor
 ·intro h;split at h
  ·rename_i h45;obtain⟨u,hu,rfl⟩:=Option.map_eq_some_iff.1 h;obtain⟨e,hle,hpos⟩:=zeo hu;have:=hpos rfl;refine⟨by unfold z17;simp;omega,?_⟩
   obtain⟨c,r,rfl⟩:∃c r,l=c :: r:=by
    cases l with
    | nil=>simp at h45
    | cons c r=>exact⟨c,r,rfl⟩
   simp at h45 e;subst h45;unfold itoa;rw[if_pos (by omega),e,show(-(u:Int)).natAbs=u by omega]
  ·obtain⟨u,hu,rfl⟩:=Option.map_eq_some_iff.1 h;obtain⟨e,hle,hpos⟩:=zeo hu;refine⟨by unfold z17;simp;omega,?_⟩;unfold itoa;rw[if_neg (by omega),e,Int.toNat_natCast]
 ·rintro⟨hi,rfl⟩;unfold z17 at hi;simp at hi;unfold itoa;by_cases hv:v < 0
  ·rw[if_pos hv,if_pos (show(45 :: decDigits v.natAbs).head? = some (45:UInt8) from rfl)];show(znd true (decDigits v.natAbs)).map _=some v;rw[zjj (by omega) (fun _=>by omega)];simp;omega
  ·rw[if_neg hv,if_neg (zkh _),zjj (by omega) (fun h=>by cases h)];simp;omega
theorem zfm:∀(l:List UInt8) (a:Nat),(∀c∈l,ze5 c=true)→zau a l≤1000000000000000000→parseUint10 a l=.ok (zau a l)
 | [],a,_,_=>rfl
 | c :: r,a,h,hv=>by
  have hc:=h c (.head _);unfold ze5 at hc;simp at hc;have h1:zau a (c :: r)=zau (a * 10+(c.toNat - 48)) r:=rfl;have h2:=zdr r (a * 10+(c.toNat - 48));rw[h1] at hv ⊢;rw[parseUint10,if_pos hc,if_neg (by omega),if_neg (by omega)];exact zfm r _ (fun q hq=>h q (.tail _ hq)) hv
theorem zbc{u:Nat}(h:u≤999999999):parseMag (decDigits u)=.ok u:=by
 unfold parseMag;rw[if_neg (zfa u)];have:=zfm (decDigits u) 0 (zal u) (by have:=zdh u;unfold zi3 at this;omega);have h2:=zdh u;unfold zi3 at h2;rw[h2] at this;exact this
theorem zbl{v:Int}(h:z17 v=true):atoiAll (itoa v)=.ok v:=by
 unfold z17 at h;simp at h;unfold itoa;by_cases hv:v < 0
 ·rw[if_pos hv];unfold atoiAll;simp only[show(45:UInt8).toNat=45 from rfl,true_or,or_true,if_true];rw[zbc (by omega)];simp only[not_true,false_and,if_false,true_and];rw[if_neg (by omega)];congr 1;omega
 ·rw[if_neg hv];obtain⟨c,r,e⟩:=List.exists_cons_of_ne_nil (zfa v.toNat);have hd:=zal v.toNat c (by rw[e];exact .head _);unfold ze5 at hd;simp at hd;have hp:=zbc (u:=v.toNat) (by omega);rw[e] at hp ⊢;unfold atoiAll;simp only;rw[if_neg (by omega),hp];simp;rw[if_neg (by omega),if_neg (by omega),if_neg (by omega)];congr 1;omega
theorem zht{l:List UInt8}{v:Int}(h:atoiAll l=.ok v):zcu l=if itoa v=l∧z17 v=true then some v else none:=by
 by_cases hc:itoa v=l∧z17 v=true
 ·rw[if_pos hc];exact za5.2 ⟨hc.2,hc.1.symm⟩
 ·rw[if_neg hc];cases hi:zcu l with
  | none=>rfl
  | some u=>
   obtain⟨h1,h2⟩:=za5.1 hi;have:=zbl h1;rw[←h2,h] at this;injection this with this
   subst this;exact absurd ⟨h2.symm,h1⟩ hc
theorem zfc{l:List UInt8}(h:∀v,atoiAll l≠.ok v):zcu l=none:=by
 cases hi:zcu l with
 | none=>rfl
 | some u=>
  obtain⟨h1,h2⟩:=za5.1 hi;exact absurd (by rw[h2];exact zbl h1) (h u)
end Go.Proofs.YtmkhmejempcimaaGreatDoor
namespace Go.Proofs.YtmkhmejempcimaaGreatDoor
open Go.Proofs.Tryz (prog)
open Go.RowKit
section
variable {P:Program} {ops:Array Oper} {Q:Exit→Act→World→Prop} {md:Region.Mode} {S:World→Prop} {n:Nat}
def za3(md:Region.Mode)(ops:Array Oper)(n i:Nat):Bool:=((ops[n]?).map fun o=>o.after.any fun e=>Region.binds md e&&e.on==i).getD false
theorem zbi{i:Nat}{listed:Array Bool}(h:za3 md ops n i=true)(hr:n∈Region.ready md ops listed):listed.getD i false=true:=by
 obtain⟨-,o,ho,hall⟩:=mem_ready.1 hr;unfold za3 at h;rw[ho] at h;simp only[Option.map_some,Option.getD_some] at h;rw[Array.any_eq_true] at h;obtain⟨k,hk,h⟩:=h;simp only[Bool.and_eq_true,beq_iff_eq] at h;have:=hall _ (Array.getElem_mem hk) h.1;rw[h.2] at this;exact this
def z5f(P:Program)(md:Region.Mode)(ops:Array Oper)(Q:Exit→Act→World→Prop)(S:World→Prop)(n:Nat):Nat→Array Bool→Act→World→Prop
 | 0,listed,a,w=>Region.ready md ops listed=[]∧Q .normal a w
 | fuel+1,listed,a,w=>
  (Region.ready md ops listed=[]→Q .normal a w) ∧
  ∀i∈Region.ready md ops listed,wpOp P ops Q i (fun a' w'=>(i≠n→S w')∧z5f P md ops Q S n fuel (listed.setIfInBounds i true) a' w') a w
theorem z9i:∀(fuel:Nat) (listed:Array Bool) (a:Act) (w:World),z5f P md ops Q S n fuel listed a w→wpAny P md ops Q fuel listed a w
 | 0,_,_,_,h=>h
 | fuel+1,_,_,_,h=>⟨h.1,fun i hi=>wpOp_mono (fun a' w' h'=>z9i fuel _ a' w' h'.2) (h.2 i hi)⟩
theorem zas{i:Nat}{oi:Oper}{v:Value}(hi:ops[i]? = some oi)(hsel:∀(j:Nat) (o:Oper) cs b,ops[j]? = some o→o.op≠.select cs b)(hn:za3 md ops n i=true)(hin:i≠n)
  (hQ:∀c a w,Q (.panic c) (a.put oi.dst v) w→Q (.panic c) a w):
  ∀(fuel:Nat) (listed:Array Bool) (a:Act) (w:World),
   (∀j oj,ops[j]? = some oj→j≠i→listed.getD j true=false→(∀e∈oj.after,Region.binds md e=true→e.on≠i)→oi.apart ops oj=true) →
   i∈Region.ready md ops listed→YieldsIf P ops S oi v a→S w →
   z5f P md ops Q S n fuel (listed.setIfInBounds i true) (a.put oi.dst v) w→z5f P md ops Q S n (fuel+1) listed a w:=by
 intro fuel
 induction fuel with
 | zero=>
  intro listed a w _ hr hy hS H;refine⟨fun h=>(by rw[h] at hr;cases hr),fun j hj=>?_⟩;by_cases hji:j=i
  ·subst hji;exact hy.wpOp hi hS ⟨fun _=>hS,H⟩
  ·have:=ready_mono hj hji;rw[H.1] at this;cases this
 | succ fuel ih=>
  intro listed a w hfree hr hy hS H;refine⟨fun h=>(by rw[h] at hr;cases hr),fun j hj=>?_⟩;by_cases hji:j=i
  ·subst hji;exact hy.wpOp hi hS ⟨fun _=>hS,H⟩
  ·have h1:=H.2 j (ready_mono hj hji);obtain⟨hjun,oj,hoj,hall⟩:=mem_ready.1 hj;have hiun:=(mem_ready.1 hr).1
   have clash:listed.getD i false=true→False:=fun h=>by
    rcases Nat.lt_or_ge i listed.size with h'|h'
    ·simp[h'] at hiun h;rw[hiun] at h;cases h
    ·simp[Array.getElem?_eq_none h'] at h
   have hjn:j≠n:=fun e=>clash (zbi hn (e ▸ hj))
   have hnot:∀e∈oj.after,Region.binds md e=true→e.on≠i:=fun e he hb heq=>clash (by
    have h1:=hall e he hb;rw[heq] at h1;exact h1)
   have h2:=wpOp_putIf hoj (hfree j oj hoj hji hjun hnot) (fun cs b=>hsel i oi cs b hi) (fun cs b=>hsel j oj cs b hoj) hQ hy h1
   have hfree':∀k ok,ops[k]? = some ok→k≠i→(listed.setIfInBounds j true).getD k true=false →
     (∀e∈ok.after,Region.binds md e=true→e.on≠i)→oi.apart ops ok=true:=fun k ok hk hki hun hno=>by
    refine hfree k ok hk hki ?_ hno;by_cases hjk:j=k
    ·subst hjk;exact hjun
    ·rw[getD_set_ne true hjk] at hun;exact hun
   refine wpOp_mono (fun a' w' h3=>⟨h3.2.1,ih (listed.setIfInBounds j true) a' w' hfree' (ready_mono hr (Ne.symm hji)) h3.1 (h3.2.1 hjn) ?_⟩) h2;rw[Array.setIfInBounds_comm _ _ hji];exact h3.2.2
theorem z00{i:Nat}{oi:Oper}{v:Value}{fuel:Nat}{listed:Array Bool}{a:Act}{w:World}(hi:ops[i]? = some oi)
  (hs:Region.noSelect ops=true) (hf:Region.free md ops listed i=true) (hr:(Region.ready md ops listed).contains i=true) (hn:za3 md ops n i=true) (hin:i≠n)
  (hQ:∀c a w,Q (.panic c) (a.put oi.dst v) w→Q (.panic c) a w) (hS:S w) (hy:YieldsIf P ops S oi v a)
  (h:z5f P md ops Q S n fuel (listed.setIfInBounds i true) (a.put oi.dst v) w):z5f P md ops Q S n (fuel+1) listed a w:=
 zas hi (Region.noSelect_spec hs) hn hin hQ fuel listed a w (Region.free_spec hi hf) (by simpa using hr) hy hS h
theorem z10{k:Nat}{o:Oper}{fuel:Nat}{listed:Array Bool}{a:Act}{w:World}(hr:Region.ready md ops listed=[k])(ho:ops[k]? = some o)
  (h:∀K':Act→World→Prop,Shut (∀a w,(k≠n→S w)→z5f P md ops Q S n fuel (listed.setIfInBounds k true) a w→K' a w)→if Region.wanted o (yielded ops a.tmps)=true then Oper.wp P o a w K' Q else K' (a.put o.dst undef) w):z5f P md ops Q S n (fuel+1) listed a w:=by
 refine⟨fun h0=>(by rw[hr] at h0;cases h0),fun i hi=>?_⟩;rw[hr] at hi;obtain rfl:i=k:=by simpa using hi
 exact wpOp_step ho (fun K' hK=>h K' (fun a w hS hW=>hK a w ⟨hS,hW⟩))
theorem z5o{fuel:Nat}{listed:Array Bool}{a:Act}{w:World}(hr:Region.ready md ops listed=[])(h:Q .normal a w):z5f P md ops Q S n fuel listed a w:=by
 cases fuel with
 | zero=>exact⟨hr,h⟩
 | succ fuel=>exact⟨fun _=>h,fun i hi=>by rw[hr] at hi;cases hi⟩
theorem z5j{id:Nat}{a:Act}{w:World}(S:World→Prop)(n:Nat)(hm:P.follows .mixedOrders=true)
  (h:z5f P .any ops Q S n ops.size (Array.replicate ops.size false) a w.drew):(Code.region id ops true).wp P Q a w:=
 wp_region_any hm (z9i _ _ _ _ h)
end
end Go.Proofs.YtmkhmejempcimaaGreatDoor
namespace Go.Proofs.YtmkhmejempcimaaGreatDoor
open Go.Proofs.Tryz (prog)
open Go.ChangeShapes Go.WideShapes Go.RowKit Go.Deep
section
variable {H:Type} {enc:TypeId×Value→H} {w:World}
theorem z4v{w:World}{a:Addr}{v:Value}(h:w.cell? a=some v):a=⟨a.block,a.off,none⟩∧a.block < w.heap.size:=by
 refine⟨?_,World.block_lt_of_cell? w a h⟩;unfold World.cell? at h;split at h
 ·cases a with
  | mk b o s=>
   cases s with
   | none=>rfl
   | some s=>simp at h
 ·cases h
theorem z3k(b o j:Nat):(⟨b,o,none⟩:Addr).add j=⟨b,o+j,none⟩:=by
 unfold Addr.add;split
 ·have e:j=0:=by assumption
  rw[e];rfl
 ·rfl
theorem zcc{α:Type}(P:Nat→α→Prop):∀n,(∀i,i < n→∃p,P i p)→∃l:List α,l.length=n∧∀(i:Nat) p,l[i]? = some p→P i p
 | 0,_=>⟨[],rfl,fun i p h=>by simp at h⟩
 | n+1,h=>by
  obtain⟨l,hl,hp⟩:=zcc P n (fun i hi=>h i (by omega));obtain⟨q,hq⟩:=h n (by omega);refine⟨l++[q],by simp[hl],fun i p hi=>?_⟩;rcases Nat.lt_or_ge i n with h1|h1
  ·rw[List.getElem?_append_left (by omega)] at hi;exact hp i p hi
  ·have e:i=n:=by have:=(List.getElem?_eq_some_iff.1 hi).1;simp at this;omega
   subst e;rw[List.getElem?_append_right (by omega),hl,Nat.sub_self] at hi;simp at hi;subst hi;exact hq
theorem z7y{P:Program}{e:TypeId}:∀ {l:List (DataW H)} {d:DataW H},d∈l→∀q∈d.weights P e,q∈DataW.weightsAll P e l
 | x :: l,d,hd,q,hq=>by
  simp only[DataW.weightsAll,List.mem_append];rcases List.mem_cons.1 hd with rfl|hd
  ·exact .inl hq
  ·exact .inr (z7y hd q hq)
theorem z2a{P:Program}{t e:TypeId}{els sp:List (DataW H)}(ht:P.underlying t=some (.slice e))(h:∀q∈(DataW.slice els sp).weights P t,q≤reachBytes):
  (els.length+sp.length) * P.bytesOf e≤reachBytes∧∀d∈els,∀q∈d.weights P e,q≤reachBytes:=by
 simp only[DataW.weights,ht] at h;refine⟨h _ (by simp),fun d hd q hq=>h q ?_⟩;rw[List.mem_cons,List.mem_append];exact .inr (.inl (z7y hd q hq))
theorem z67{b o n size:Nat}{xs:List Value}{A:Option Addr}{c:Nat}(hA:0 < n→A=some ⟨b,o,none⟩)(hx:xs.length=n * size)(hc:n≤c)(hm:c≤maxLen)(hb:0 < n→b < w.heap.size)(hcell:∀j u,xs[j]? = some u→w.cell? ⟨b,o+j,none⟩=some u):Sl w w.heap.size size (.slice A n c) n xs:=
 ⟨A,c,rfl,hx,hc,hm,fun hn=>⟨b,o,hA hn,hb hn,hcell⟩⟩
theorem zjb:prog.bytesOf 9=16:=by kernel_rfl
theorem zjk:prog.bytesOf 108=32:=by kernel_rfl
theorem zg7:prog.bytesOf 110=24:=by kernel_rfl
theorem z4y:prog.cellsOf 9=1:=by kernel_rfl
theorem z7o:prog.cellsOf 3=1:=by kernel_rfl
theorem zie:prog.cellsOf 108=2:=by kernel_rfl
theorem zg6:prog.cellsOf 110=2:=by kernel_rfl
theorem zcg{fuel:Nat}{cs:List Value}{x:DataW H×List MemPlace}(h:DataW.trod enc prog w 0 (fun _=>true) true fuel 41 cs=some x)(hw:∀q∈x.1.weights prog 41,q≤reachBytes):
  ∃A c l,cs=[.slice A l.length c]∧Sl w w.heap.size 1 (.slice A l.length c) l.length (z04 l)∧l.length≤281474976710656∧∀s∈l,s.size≤281474976710656:=by
 rcases open_strings Tryz.underlying41 Tryz.underlying9 z4y h with⟨rfl,rfl⟩|⟨a,len,cap,ss,rfl,_,hl,hm,hz,rfl,hcell,_⟩
 ·exact⟨none,0,[],rfl,Sl.nil _ _ _,by simp,fun s hs=>by cases hs⟩
 ·obtain⟨h1,h2⟩:=z2a Tryz.underlying41 hw;simp only[if_true] at hz;have hlt:(ss.take len).length=len:=by rw[List.length_take];omega
  rw[zjb] at h1;simp only[strs,List.length_map] at h1;unfold reachBytes at h1;refine⟨some a,cap,ss.take len,by rw[hlt],?_,by omega,fun s hs=>?_⟩
  ·rw[hlt];rcases Nat.eq_zero_or_pos len with h0|h0
   ·subst h0;exact⟨_,_,rfl,by simp[z04],hl,hm,fun h=>absurd h (by omega)⟩
   ·have hc0:=hcell 0 (by omega);have e0:a.add 0=a:=rfl;rw[e0] at hc0;obtain⟨ha,hb⟩:=z4v hc0;refine z67 (b:=a.block) (o:=a.off) (fun _=>by rw[←ha]) (by rw[z5y];omega) hl hm (fun _=>hb) (fun j u hu=>?_);have hj:j < len:=by have:=(List.getElem?_eq_some_iff.1 hu).1;rw[z5y,hlt] at this;exact this
    have:=hcell j (by omega);rw[ha,z3k] at this;rw[this];unfold z04 at hu;rw[List.getElem?_map,List.getElem?_take_of_lt hj,List.getElem?_eq_getElem (by omega)] at hu;simp at hu;rw[List.getD_eq_getElem?_getD,List.getElem?_eq_getElem (by omega)];rw[←hu];rfl
  ·have:=h2 (.lit (.string s.data.toList)) (by unfold strs;exact List.mem_map.2 ⟨s,hs,rfl⟩) s.data.toList.length (by simp[DataW.weights]);unfold reachBytes at this;have e:s.data.toList.length=s.size:=by simp
   omega
theorem z9h:∀(l:List (ByteArray×ByteArray)) (j:Nat) (u:Value),(z0t l)[j]? = some u→∃i p,l[i]? = some p∧((j=2 * i∧u=.string p.1)∨(j=2 * i+1∧u=.string p.2))
 | [],j,u,h=>by simp[z0t] at h
 | q :: l,0,u,h=>⟨0,q,rfl,.inl ⟨rfl,by simpa[z0t] using h.symm⟩⟩
 | q :: l,1,u,h=>⟨0,q,rfl,.inr ⟨rfl,by simpa[z0t] using h.symm⟩⟩
 | q :: l,j+2,u,h=>by
  obtain⟨i,p,hp,hh⟩:=z9h l j u (by simpa[z0t] using h);rcases hh with⟨h1,h2⟩|⟨h1,h2⟩
  ·exact⟨i+1,p,by simpa using hp,.inl ⟨by omega,h2⟩⟩
  ·exact⟨i+1,p,by simpa using hp,.inr ⟨by omega,h2⟩⟩
theorem z8i:∀(l:List (Int×ByteArray)) (j:Nat) (u:Value),(z0h l)[j]? = some u→∃i p,l[i]? = some p∧((j=2 * i∧u=.int .i64 p.1)∨(j=2 * i+1∧u=.string p.2))
 | [],j,u,h=>by simp[z0h] at h
 | q :: l,0,u,h=>⟨0,q,rfl,.inl ⟨rfl,by simpa[z0h] using h.symm⟩⟩
 | q :: l,1,u,h=>⟨0,q,rfl,.inr ⟨rfl,by simpa[z0h] using h.symm⟩⟩
 | q :: l,j+2,u,h=>by
  obtain⟨i,p,hp,hh⟩:=z8i l j u (by simpa[z0h] using h);rcases hh with⟨h1,h2⟩|⟨h1,h2⟩
  ·exact⟨i+1,p,by simpa using hp,.inl ⟨by omega,h2⟩⟩
  ·exact⟨i+1,p,by simpa using hp,.inr ⟨by omega,h2⟩⟩
theorem zbe{a:Addr}{cs:List Value}(h:w.cells? 0 a 2=some cs):∃u v,cs=[u,v]∧w.cell? a=some u∧w.cell? (a.add 1)=some v:=by
 obtain⟨_,hl,hat⟩:=World.cells?_some h
 match cs,hl with
 | [u,v],_=>exact⟨u,v,rfl,hat 0 (by omega),hat 1 (by omega)⟩
theorem zhv{fuel:Nat}{cs:List Value}{x:DataW H×List MemPlace}(h:DataW.trod enc prog w 0 (fun _=>true) true fuel 43 cs=some x)(hw:∀q∈x.1.weights prog 43,q≤reachBytes):
  ∃A c l,cs=[.slice A l.length c]∧Sl w w.heap.size 2 (.slice A l.length c) l.length (z0t l)∧l.length≤281474976710656∧∀p∈l,p.1.size≤281474976710656∧p.2.size≤281474976710656:=by
 rcases open_slice Tryz.underlying43 h with⟨rfl,rfl⟩|⟨a,len,cap,m,n,D,Pl,rfl,_,hl,hm,hmm,rfl,hi⟩
 ·exact⟨none,0,[],rfl,Sl.nil _ _ _,by simp,fun s hs=>by cases hs⟩
 ·obtain⟨h1,h2⟩:=z2a Tryz.underlying43 hw;simp only[if_true] at hmm;rw[zjk] at h1;simp only[List.length_map,List.length_range] at h1;unfold reachBytes at h1;rw[zie] at hi
  have each:∀i,i < len→∃p:ByteArray×ByteArray,w.cell? (a.add (i * 2))=some (.string p.1)∧w.cell? ((a.add (i * 2)).add 1)=some (.string p.2)∧p.1.size≤281474976710656∧p.2.size≤281474976710656:=by
   intro i hlt;obtain⟨cs',hc,ht⟩:=hi i (by omega);obtain⟨u,v,rfl,hu,hv⟩:=zbe hc;obtain⟨ys,k,_,hy,_,hyl,hf⟩:=DataW.trod_struct Tryz.underlying108 ht;have f0:=hf 0 _ rfl;have f1:=hf 1 _ rfl;simp[z4y] at f0 f1
   match ys,hyl with
   | [y0,y1],_=>
    obtain⟨s,hs,rfl,_⟩:=DataW.trod_string Tryz.underlying9 f0;obtain⟨t,ht2,rfl,_⟩:=DataW.trod_string Tryz.underlying9 f1;simp at hs ht2;subst hs;subst ht2;simp only[Prod.mk.injEq] at hy;have hd:=h2 (D i) (List.mem_map.2 ⟨i,by simpa using hlt,rfl⟩);rw[hy.1] at hd;simp only[DataW.weights,Tryz.underlying108,List.map_cons,List.map_nil,DataW.weightsEach] at hd;refine⟨(s,t),hu,hv,?_,?_⟩
    ·have:=hd s.data.toList.length (by simp);unfold reachBytes at this;have e:s.data.toList.length=s.size:=by simp
     show s.size≤_;omega
    ·have:=hd t.data.toList.length (by simp);unfold reachBytes at this;have e:t.data.toList.length=t.size:=by simp
     show t.size≤_;omega
  obtain⟨l,hll,hp⟩:=zcc _ len each;subst hll;refine⟨some a,cap,l,rfl,?_,by omega,fun p hp2=>?_⟩
  ·rcases Nat.eq_zero_or_pos l.length with h0|h0
   ·exact⟨_,_,rfl,by rw[z4b];omega,hl,hm,fun h=>absurd h (by omega)⟩
   ·obtain⟨p0,hp0⟩:∃p,l[0]? = some p:=⟨_,List.getElem?_eq_getElem h0⟩;have hc0:=(hp 0 p0 hp0).1;have e0:a.add (0 * 2)=a:=rfl;rw[e0] at hc0;obtain⟨ha,hb⟩:=z4v hc0;refine z67 (b:=a.block) (o:=a.off) (fun _=>by rw[←ha]) (by rw[z4b];omega) hl hm (fun _=>hb) (fun j u hu=>?_);obtain⟨i,p,hip,hj⟩:=z9h l j u hu;have hq:=hp i p hip;rw[ha,z3k,z3k] at hq;rcases hj with⟨rfl,rfl⟩|⟨rfl,rfl⟩
    ·have:=hq.1;rw[Nat.mul_comm] at this;exact this
    ·have:=hq.2.1;rw[Nat.add_assoc,Nat.mul_comm] at this;exact this
  ·obtain⟨i,hi2⟩:=List.getElem?_of_mem hp2;exact(hp i p hi2).2.2
theorem zfy{fuel:Nat}{cs:List Value}{x:DataW H×List MemPlace}(h:DataW.trod enc prog w 0 (fun _=>true) true fuel 44 cs=some x)(hw:∀q∈x.1.weights prog 44,q≤reachBytes):
  ∃A c l,cs=[.slice A l.length c]∧Sl w w.heap.size 2 (.slice A l.length c) l.length (z0h l)∧l.length≤281474976710656∧∀p∈l,(-9223372036854775808≤p.1∧p.1≤9223372036854775807)∧p.2.size≤281474976710656:=by
 rcases open_slice Tryz.underlying44 h with⟨rfl,rfl⟩|⟨a,len,cap,m,n,D,Pl,rfl,_,hl,hm,hmm,rfl,hi⟩
 ·exact⟨none,0,[],rfl,Sl.nil _ _ _,by simp,fun s hs=>by cases hs⟩
 ·obtain⟨h1,h2⟩:=z2a Tryz.underlying44 hw;simp only[if_true] at hmm;rw[zg7] at h1;simp only[List.length_map,List.length_range] at h1;unfold reachBytes at h1;rw[zg6] at hi
  have each:∀i,i < len→∃p:Int×ByteArray,w.cell? (a.add (i * 2))=some (.int .i64 p.1)∧w.cell? ((a.add (i * 2)).add 1)=some (.string p.2)∧(-9223372036854775808≤p.1∧p.1≤9223372036854775807)∧p.2.size≤281474976710656:=by
   intro i hlt;obtain⟨cs',hc,ht⟩:=hi i (by omega);obtain⟨u,v,rfl,hu,hv⟩:=zbe hc;obtain⟨ys,k,_,hy,_,hyl,hf⟩:=DataW.trod_struct Tryz.underlying110 ht;have f0:=hf 0 _ rfl;have f1:=hf 1 _ rfl;simp[z4y,z7o] at f0 f1
   match ys,hyl with
   | [y0,y1],_=>
    obtain⟨s,hs,rfl,hwf⟩:=DataW.trod_int Tryz.underlying3 f0;obtain⟨t,ht2,rfl,_⟩:=DataW.trod_string Tryz.underlying9 f1;simp at hs ht2;subst hs;subst ht2;simp only[Prod.mk.injEq] at hy;have hd:=h2 (D i) (List.mem_map.2 ⟨i,by simpa using hlt,rfl⟩);rw[hy.1] at hd;simp only[DataW.weights,Tryz.underlying110,List.map_cons,List.map_nil,DataW.weightsEach] at hd;refine⟨(s,t),hu,hv,bounds_i64 hwf,?_⟩
    ·have:=hd t.data.toList.length (by simp);unfold reachBytes at this;have e:t.data.toList.length=t.size:=by simp
     show t.size≤_;omega
  obtain⟨l,hll,hp⟩:=zcc _ len each;subst hll;refine⟨some a,cap,l,rfl,?_,by omega,fun p hp2=>?_⟩
  ·rcases Nat.eq_zero_or_pos l.length with h0|h0
   ·exact⟨_,_,rfl,by rw[z3q];omega,hl,hm,fun h=>absurd h (by omega)⟩
   ·obtain⟨p0,hp0⟩:∃p,l[0]? = some p:=⟨_,List.getElem?_eq_getElem h0⟩;have hc0:=(hp 0 p0 hp0).1;have e0:a.add (0 * 2)=a:=rfl;rw[e0] at hc0;obtain⟨ha,hb⟩:=z4v hc0;refine z67 (b:=a.block) (o:=a.off) (fun _=>by rw[←ha]) (by rw[z3q];omega) hl hm (fun _=>hb) (fun j u hu=>?_);obtain⟨i,p,hip,hj⟩:=z8i l j u hu;have hq:=hp i p hip;rw[ha,z3k,z3k] at hq;rcases hj with⟨rfl,rfl⟩|⟨rfl,rfl⟩
    ·have:=hq.1;rw[Nat.mul_comm] at this;exact this
    ·have:=hq.2.1;rw[Nat.add_assoc,Nat.mul_comm] at this;exact this
  ·obtain⟨i,hi2⟩:=List.getElem?_of_mem hp2;exact(hp i p hi2).2.2
end
end Go.Proofs.YtmkhmejempcimaaGreatDoor
