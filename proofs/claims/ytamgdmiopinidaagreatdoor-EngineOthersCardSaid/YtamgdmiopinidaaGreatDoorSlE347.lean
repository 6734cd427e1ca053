/- Contracts that the proof of E3 uses. No condition beyond those in each theorem. -/
import Derived.JoinedCond
import Derived.ProofKit
import Derived.Test.YtamgdmiopinidaaGreatDoorChecked
import Derived.Test.YtamgdmiopinidaaGreatDoorRows
import Derived.WalkKit
set_option linter.unusedVariables false
set_option linter.unusedSimpArgs false
set_option maxHeartbeats 8000000
set_option maxRecDepth 100000
namespace Go.Proofs.YtamgdmiopinidaaGreatDoor.lawEngineOthers
open Go.ChangeShapes Go.WideShapes Go.ChangeAt Go.RowKit
theorem cl0:Tryz.pinned.checked.prog.inPlace 4=Rows.engineOthersRow.inPlace:=by kernel_rfl
theorem cl1:Tryz.pinned.checked.prog.unfollowed 4=Rows.engineOthersRow.unfollowed:=by kernel_rfl
theorem cl2:Tryz.pinned.checked.prog.recurses 4=Rows.engineOthersRow.recurses:=by kernel_rfl
theorem cl3:Tryz.pinned.checked.prog.varsNamed 4=Rows.engineOthersRow.named:=by kernel_rfl
theorem closed:joinedFacts Tryz.pinned.checked.prog 4 Tryz.f4 (OpenSpec.ofChange Rows.engineOthersSpec).bare Rows.engineOthersRow=true:=by
 unfold joinedFacts
 rw[cl0,cl1,cl2,cl3]
 kernel_rfl
end Go.Proofs.YtamgdmiopinidaaGreatDoor.lawEngineOthers
