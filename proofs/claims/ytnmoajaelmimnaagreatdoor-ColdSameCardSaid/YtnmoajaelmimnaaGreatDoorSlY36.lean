/- Contracts; no condition but each theorem's own. -/
import Derived.JoinedCond
import Derived.ProofKit
import Derived.Test.YtnmoajaelmimnaaGreatDoorCards
import Derived.Test.YtnmoajaelmimnaaGreatDoorChecked
import Derived.Test.YtnmoajaelmimnaaGreatDoorRows
import Derived.WalkKit
set_option linter.unusedVariables false
set_option linter.unusedSimpArgs false
set_option maxHeartbeats 8000000
set_option maxRecDepth 100000
namespace Go.Proofs.YtnmoajaelmimnaaGreatDoor.lawColdSame
open Go.Proofs.Tryz
section
open Go.ChangeShapes Go.WideShapes Go.ChangeAt Go.RowKit
theorem cl0:Tryz.pinned.checked.prog.inPlace 5=Rows.coldSameRow.inPlace:=by kernel_rfl
theorem cl1:Tryz.pinned.checked.prog.unfollowed 5=Rows.coldSameRow.unfollowed:=by kernel_rfl
theorem cl2:Tryz.pinned.checked.prog.recurses 5=Rows.coldSameRow.recurses:=by kernel_rfl
theorem cl3:Tryz.pinned.checked.prog.varsNamed 5=Rows.coldSameRow.named:=by kernel_rfl
theorem cl4:Rows.coldSameRow.wfByText (OpenSpec.ofChange Rows.coldSameSpec)=true:=by kernel_rfl
theorem cl5:Tryz.pinned.checked.prog.mainIs=some (Rows.coldSameCard.stood.harness.1,Rows.coldSameCard.stood.harness.2.toList):=by kernel_rfl
theorem cl6:false=Rows.coldSameRow.goesBy Tryz.pinned.checked.prog:=by kernel_rfl
theorem closed:joinedFacts Tryz.pinned.checked.prog 5 f5 (OpenSpec.ofChange Rows.coldSameSpec).bare Rows.coldSameRow=true:=by
 unfold joinedFacts;rw[cl0,cl1,cl2,cl3]
 kernel_rfl
end
end Go.Proofs.YtnmoajaelmimnaaGreatDoor.lawColdSame
