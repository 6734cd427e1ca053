/- The statement of ColdSame, tied to the program's text: for every input the law answers true, and each argument reads behind the call as it read before. The package variables that it names read as the text lays them. -/
import Derived.Test.YtnmoajaelmimnaaGreatDoorSlY35
import Derived.Test.YtnmoajaelmimnaaGreatDoorSlY36
import Derived.ChangeOld
import Derived.Deep.DeepHandedRow
import Derived.Deep.DeepWitnessRowRef
import Derived.ShutString
import Derived.Test.YtnmoajaelmimnaaGreatDoorTie
set_option linter.unusedVariables false
set_option linter.unusedSimpArgs false
set_option maxHeartbeats 8000000
set_option maxRecDepth 100000
namespace Go.Proofs.YtnmoajaelmimnaaGreatDoor.lawColdSame
open Go.Proofs.Tryz
section
open Go.ChangeMaps (open_string shut_string)
open Go.ChangeShapes Go.WideShapes Go.ChangeAt Go.RowKit
theorem own:ownKnob prog.godebug=none:=by kernel_rfl
theorem laid:laidOutB prog=true:=by kernel_rfl
theorem reads(os:Os)(H:Type)(enc:TypeId×Value→H):∃places,DataW.whole enc prog ((zee os).forCall (fun _ _=>0) ⟨#[],#[.agg #[.slice none 0 0,.slice none 0 0],.int .i64 0,.string ByteArray.empty,.int .i64 0,.slice none 0 0],[]⟩).memory f5.params.toList Rows.coldSameSpec.vars false (#[.agg #[.slice none 0 0,.slice none 0 0],.int .i64 0,.string ByteArray.empty,.int .i64 0,.slice none 0 0]:Array Value).toList 8=some ([.agg [.nil,.nil],.lit (.int .i64 0),.lit (.string []),.lit (.int .i64 0),.nil],[],places):=
 ⟨[],by kernel_rfl⟩
theorem lifted(os:Os)(started:os.Started)(H:Type)(enc:TypeId×Value→H)(F:Stop.Interp):
  ReturnsInHanded {} Tryz.checked os 5 .any ((OpenSpec.ofChange Rows.coldSameSpec).preRow enc prog f5 Rows.coldSameRow.domain false Rows.coldSameRow.laid) (((OpenSpec.ofChange Rows.coldSameSpec).at F).post enc prog f5 false true false false):=by
 obtain⟨w,hx⟩:=reads os H enc
 refine returnsInHanded_of_row (C:=Tryz.checked) (s:=OpenSpec.ofChange Rows.coldSameSpec) own started (by kernel_rfl) func5
  (witness_row_atRef (enc:=enc) (C:=Tryz.checked) false (zee os) #[.agg #[.slice none 0 0,.slice none 0 0],.int .i64 0,.string ByteArray.empty,.int .i64 0,.slice none 0 0] rfl (by kernel_rfl) (by kernel_rfl) (by kernel_rfl)
    (OpenSpec.preRow_of_cond 8 hx (by kernel_rfl) (fun k hk=>by cases hk) (by kernel_rfl) (zzn os _))) ?_
 intro W base b V gs r d U _ B l hL hS _;have hV:Vars W:=q7h hL;have f:(DataW.weightsEach prog (f5.params.toList++Rows.coldSameSpec.plain.varTypes prog) (V++gs)).all (·≤reachBytes)=true:=l;clear l;have a:∀(j:Nat) t v,f5.params[j]? = some t→b[j]? = some v→Value.okWide prog W .any base t v:=d;have g:=U;obtain⟨p,q,n,N,rfl,a6,ac⟩:=U;have Q:DataW.TrodAll enc prog W 0 (fun _=>true) true f5.params.toList b.toList V p:=n;rw[params5] at Q a f;obtain⟨A,a0,d0,Y,p0,q0,E,rfl,rfl,T,r0⟩:=trodAll_cons Q;obtain⟨O,X,d1,a9,p1,q1,rfl,rfl,rfl,h1,r1⟩:=trodAll_cons r0;obtain⟨S,ab,d2,a4,p2,q2,rfl,rfl,rfl,h2,r2⟩:=trodAll_cons r1;obtain⟨P,aa,d3,a5,p3,q3,rfl,rfl,rfl,h3,r3⟩:=trodAll_cons r2;obtain⟨R,a8,d4,ad,p4,q4,rfl,rfl,rfl,h4,r4⟩:=trodAll_cons r3;obtain⟨rfl,rfl,rfl⟩:=trodAll_nil r4;obtain rfl:b=#[A,O,S,P,R]:=by cases b;simp_all
 obtain⟨rfl,rfl⟩:=trodVars_none N
 have K:∀q∈d0.weights prog 42,q≤reachBytes:=fun q L=>by
  have:=Jb.1 f _ (DataW.weights_mem_each (j:=0) (t:=42) rfl rfl q L);simpa using this
 obtain⟨x0,M,I⟩:=zw1 (a 0 42 A rfl rfl) T K;obtain⟨a1,rfl,rfl,rfl,w1⟩:=open_int underlying3 (a 1 3 O rfl rfl) h1;obtain⟨u,rfl,rfl,rfl,w2⟩:=open_string underlying9 (a 2 9 S rfl rfl) h2
 have b2:u.size≤281474976710656:=by
  have:=sized_string f (j:=2) (t:=9) rfl rfl;simp only[reachBytes,Array.length_toList] at this;have e:u.size=u.data.size:=rfl;omega
 obtain⟨a3,rfl,rfl,rfl,w3⟩:=open_int underlying3 (a 3 3 P rfl rfl) h3
 have z:∀q∈d4.weights prog 24,q≤reachBytes:=fun q L=>by
  have:=Jb.1 f _ (DataW.weights_mem_each (j:=4) (t:=24) rfl rfl q L);simpa using this
 obtain⟨A4,c4,x4,rfl,D,Z,a7⟩:=zrj (a 4 24 R rfl rfl) h4 z;clear n d;simp only[Ub] at g;refine(zj7 x0 A a1 u a3 x4 A4 c4 W M I Z D hV).mono fun e W' ⟨he,hf⟩=>?_;subst he;have m:Below W.heap.size W W':=hf.below;have x:∀y∈p0,y.block < W.heap.size:=fun y G=>g.lt y (by simp[G]);have J:∀y∈p4,y.block < W.heap.size:=fun y G=>g.lt y (by simp[G]);exact⟨_,rfl,_,_,_,[],_,[],g,trodAll_mk1 (shut_bool underlying4 _),(trodAll_cons_mk (Below.trod laid (by kernel_rfl) (Yl (by kernel_rfl)) T m x) (trodAll_cons_mk (shut_int underlying3 w1) (trodAll_cons_mk (shut_string underlying9 w2) (trodAll_cons_mk (shut_int underlying3 w3) (trodAll_cons_mk (Below.trod laid (by kernel_rfl) (Yl (by kernel_rfl)) h4 m J) trodAll_mk0))))),rfl,m.frame _,fun h=>by cases h⟩
theorem said:Rows.ColdSameSaid:=
 OpenClaim.holds_of_cond 5 f5 rfl rfl rfl rfl rfl rfl rfl ⟨rfl,rfl,rfl,rfl,rfl⟩ rfl rfl rfl rfl rfl (by kernel_rfl) func5 closed
  (Yl (by kernel_rfl)) (by unfold Func.isWrapper;first|(rw[Xf (by decide +kernel)];kernel_rfl)|(rw[Xc (by decide +kernel)];exact⟨rfl,rfl⟩))
  (fun os started H enc _ F=>by rw[OpenClaim.pre_eq_preRow];exact lifted os started H enc F)
theorem plain(f:FuncId)(fn:Func)(hf:Tryz.pinned.checked.prog.funcNamed Rows.coldSameRow.func=some f)(hfn:Tryz.pinned.checked.prog.funcs[f]? = some fn):
  true=Tryz.pinned.checked.prog.looks []∧∀(j:Nat) t,fn.params[j]? = some t→Tryz.pinned.checked.prog.wantsStandIn t=false:=by
 obtain rfl:f=5:=Option.some.inj ((show prog.funcNamed Rows.coldSameRow.func=some 5 by kernel_rfl).symm.trans hf) |>.symm;obtain rfl:fn=f5:=(Option.some.inj (func5.symm.trans hfn)).symm;refine⟨by kernel_rfl,fun j t b=>?_⟩;rw[params5] at b;have d:t∈([42,3,9,3,24]:List TypeId):=by simpa using Array.mem_of_getElem? b
 have a:([42,3,9,3,24]:List TypeId).all (fun t=>prog.wantsStandIn t==false)=true:=by kernel_rfl
 have:=Jb.1 a t d;exact beq_iff_eq.1 this
theorem proved:Rows.ColdSameCardSaid:=
 Claim7.holds_tied_plain_at .later [] _ _ _ _ said (fun _ h=>by cases h) cl4 (fun _ h=>by cases h) coldSame_row_tie rfl ⟨rfl,rfl⟩ cl5 rfl plain cl6
#print axioms proved
end
end Go.Proofs.YtnmoajaelmimnaaGreatDoor.lawColdSame
