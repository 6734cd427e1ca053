/- The statement of ColdUnseen, tied to the program's text: for every input the law answers true, and each argument reads behind the call as it read before. The package variables that it names read as the text lays them. -/
import Derived.Test.YtmkhmejempcimaaGreatDoorSlU35
import Derived.Test.YtmkhmejempcimaaGreatDoorSlU36
import Derived.Test.YtmkhmejempcimaaGreatDoorSlU39
import Derived.ChangeOld
import Derived.Deep.DeepHandedRow
import Derived.Deep.DeepWitnessRowRef
import Derived.ShutString
import Derived.Test.YtmkhmejempcimaaGreatDoorTie
set_option linter.unusedVariables false
set_option linter.unusedSimpArgs false
set_option maxHeartbeats 8000000
set_option maxRecDepth 100000
namespace Go.Proofs.YtmkhmejempcimaaGreatDoor.lawColdUnseen
open Go.Proofs.Tryz (prog)
open Go.ChangeShapes Go.WideShapes Go.ChangeAt Go.RowKit
open Go.ChangeMaps (open_string shut_string)
theorem own:ownKnob prog.godebug=none:=by kernel_rfl
theorem laid:laidOutB prog=true:=by kernel_rfl
theorem reads(os:Os)(H:Type)(enc:TypeId×Value→H):∃places,DataW.whole enc prog ((z4r os).forCall (fun _ _=>0) ⟨#[],#[.agg #[.slice none 0 0,.slice none 0 0],.string ByteArray.empty,.int .i64 0],[]⟩).memory Tryz.f3.params.toList Rows.coldUnseenSpec.vars false (#[.agg #[.slice none 0 0,.slice none 0 0],.string ByteArray.empty,.int .i64 0]:Array Value).toList 8=some ([.agg [.nil,.nil],.lit (.string []),.lit (.int .i64 0)],[],places):=
 ⟨[],by kernel_rfl⟩
theorem lifted(os:Os)(started:os.Started)(H:Type)(enc:TypeId×Value→H)(F:Stop.Interp):
  ReturnsInHanded {} Tryz.checked os 3 .any ((OpenSpec.ofChange Rows.coldUnseenSpec).preRow enc prog Tryz.f3 Rows.coldUnseenRow.domain false Rows.coldUnseenRow.laid) (((OpenSpec.ofChange Rows.coldUnseenSpec).at F).post enc prog Tryz.f3 false true false false):=by
 obtain⟨places,hx⟩:=reads os H enc
 refine returnsInHanded_of_row (C:=Tryz.checked) (s:=OpenSpec.ofChange Rows.coldUnseenSpec) own started (by kernel_rfl) Tryz.func3
  (witness_row_atRef (enc:=enc) (C:=Tryz.checked) false (z4r os) #[.agg #[.slice none 0 0,.slice none 0 0],.string ByteArray.empty,.int .i64 0] rfl (by kernel_rfl) (by kernel_rfl) (by kernel_rfl)
    (OpenSpec.preRow_of_cond 8 hx (by kernel_rfl) (fun k hk=>by cases hk) (by kernel_rfl) (zee os _))) ?_
 intro W base args ds gs before hval0 hW _ hcond hsz0 hL hS _;have hV:Vars W:=zmk hL;have hsz:(DataW.weightsEach prog (Tryz.f3.params.toList++Rows.coldUnseenSpec.plain.varTypes prog) (ds++gs)).all (·≤reachBytes)=true:=hsz0;clear hsz0;have hval:∀(j:Nat) t v,Tryz.f3.params[j]? = some t→args[j]? = some v→Value.okWide prog W .any base t v:=hval0;have hW':=hW;obtain⟨p,q,hA0,hVv,rfl,hfz,hnd⟩:=hW;have hA:DataW.TrodAll enc prog W 0 (fun _=>true) true Tryz.f3.params.toList args.toList ds p:=hA0;rw[Tryz.params3] at hA hval hsz;obtain⟨v0,vs0,d0,ds0,p0,q0,hargs,rfl,rfl,h0,r0⟩:=trodAll_cons hA;obtain⟨v1,vs1,d1,ds1,p1,q1,rfl,rfl,rfl,h1,r1⟩:=trodAll_cons r0;obtain⟨v2,vs2,d2,ds2,p2,q2,rfl,rfl,rfl,h2,r2⟩:=trodAll_cons r1;obtain⟨rfl,rfl,rfl⟩:=trodAll_nil r2;obtain rfl:args=#[v0,v1,v2]:=by cases args;simp_all
 obtain⟨rfl,rfl⟩:=trodVars_none hVv
 have hw0:∀q∈d0.weights prog 25,q≤reachBytes:=fun q hq=>by
  have:=List.all_eq_true.1 hsz _ (DataW.weights_mem_each (j:=0) (t:=25) rfl rfl q hq);simpa using this
 obtain⟨x0,iv0,sm0⟩:=zat (hval 0 25 v0 rfl rfl) h0 hw0;obtain⟨a1,rfl,rfl,rfl,w1⟩:=open_string Tryz.underlying9 (hval 1 9 v1 rfl rfl) h1
 have b1:a1.size≤281474976710656:=by
  have:=sized_string hsz (j:=1) (t:=9) rfl rfl;simp only[reachBytes,Array.length_toList] at this;have e:a1.size=a1.data.size:=rfl;omega
 obtain⟨a2,rfl,rfl,rfl,w2⟩:=open_int Tryz.underlying3 (hval 2 3 v2 rfl rfl) h2;clear hA0 hval0;simp only[List.append_nil] at hW';refine(z9z z6a x0 v0 a1 a2 W W.heap.size (Nat.le_refl _) iv0 sm0 hV).mono fun e W' ⟨he,hf⟩=>?_;subst he;have bel:Below W.heap.size W W':=hf.below;have lt0:∀y∈p0,y.block < W.heap.size:=fun y hy=>hW'.lt y (by simp[hy]);exact⟨_,rfl,_,_,_,[],_,[],hW',trodAll_mk1 (shut_bool Tryz.underlying4 _),(trodAll_cons_mk (Below.trod laid (by kernel_rfl) (of_decide_eq_true (by kernel_rfl)) h0 bel lt0) (trodAll_cons_mk (shut_string Tryz.underlying9 w1) (trodAll_cons_mk (shut_int Tryz.underlying3 w2) trodAll_mk0))),rfl,bel.frame _,fun h=>by cases h⟩
theorem said:Rows.ColdUnseenSaid:=
 OpenClaim.holds_of_cond 3 Tryz.f3 rfl rfl rfl rfl rfl rfl rfl ⟨rfl,rfl,rfl,rfl,rfl⟩ rfl rfl rfl rfl rfl (by kernel_rfl) Tryz.func3 closed
  (of_decide_eq_true (by kernel_rfl)) (by unfold Func.isWrapper;first|(rw[if_pos (by decide +kernel)];kernel_rfl)|(rw[if_neg (by decide +kernel)];exact⟨rfl,rfl⟩))
  (fun os started H enc _ F=>by rw[OpenClaim.pre_eq_preRow];exact lifted os started H enc F)
theorem plain(f:FuncId)(fn:Func)(hf:Tryz.pinned.checked.prog.funcNamed Rows.coldUnseenRow.func=some f)(hfn:Tryz.pinned.checked.prog.funcs[f]? = some fn):
  true=Tryz.pinned.checked.prog.looks []∧∀(j:Nat) t,fn.params[j]? = some t→Tryz.pinned.checked.prog.wantsStandIn t=false:=by
 obtain rfl:f=3:=Option.some.inj ((show prog.funcNamed Rows.coldUnseenRow.func=some 3 by kernel_rfl).symm.trans hf) |>.symm;obtain rfl:fn=Tryz.f3:=(Option.some.inj (Tryz.func3.symm.trans hfn)).symm;refine⟨by kernel_rfl,fun j t ht=>?_⟩;rw[Tryz.params3] at ht;have hm:t∈([25,9,3]:List TypeId):=by simpa using Array.mem_of_getElem? ht
 have hall:([25,9,3]:List TypeId).all (fun t=>prog.wantsStandIn t==false)=true:=by kernel_rfl
 have:=List.all_eq_true.1 hall t hm;exact beq_iff_eq.1 this
theorem proved:Rows.ColdUnseenCardSaid:=
 Claim7.holds_tied_plain_at .later [] _ _ _ _ said (fun _ h=>by cases h) cl4 (fun _ h=>by cases h) coldUnseen_row_tie rfl ⟨rfl,rfl⟩ cl5 rfl plain cl6
#print axioms proved
end Go.Proofs.YtmkhmejempcimaaGreatDoor.lawColdUnseen
