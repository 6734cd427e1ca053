/- Contracts; no condition but each theorem's own. -/
import Derived.JoinedCond
import Derived.ProofKit
import Derived.Test.YtmkhmejempcimaaGreatDoorCards
import Derived.Test.YtmkhmejempcimaaGreatDoorChecked
import Derived.Test.YtmkhmejempcimaaGreatDoorRows
import Derived.WalkKit
set_option linter.unusedVariables false
set_option linter.unusedSimpArgs false
set_option maxHeartbeats 8000000
set_option maxRecDepth 100000
namespace Go.Proofs.YtmkhmejempcimaaGreatDoor.lawColdUnseen
open Go.ChangeShapes Go.WideShapes Go.ChangeAt Go.RowKit
theorem cl0:Tryz.pinned.checked.prog.inPlace 3=Rows.coldUnseenRow.inPlace:=by kernel_rfl
theorem cl1:Tryz.pinned.checked.prog.unfollowed 3=Rows.coldUnseenRow.unfollowed:=by kernel_rfl
theorem cl2:Tryz.pinned.checked.prog.recurses 3=Rows.coldUnseenRow.recurses:=by kernel_rfl
theorem cl3:Tryz.pinned.checked.prog.varsNamed 3=Rows.coldUnseenRow.named:=by kernel_rfl
theorem cl4:Rows.coldUnseenRow.wfByText (OpenSpec.ofChange Rows.coldUnseenSpec)=true:=by kernel_rfl
theorem cl5:Tryz.pinned.checked.prog.mainIs=some (Rows.coldUnseenCard.stood.harness.1,Rows.coldUnseenCard.stood.harness.2.toList):=by kernel_rfl
theorem cl6:false=Rows.coldUnseenRow.goesBy Tryz.pinned.checked.prog:=by kernel_rfl
theorem closed:joinedFacts Tryz.pinned.checked.prog 3 Tryz.f3 (OpenSpec.ofChange Rows.coldUnseenSpec).bare Rows.coldUnseenRow=true:=by
 unfold joinedFacts;rw[cl0,cl1,cl2,cl3]
 kernel_rfl
end Go.Proofs.YtmkhmejempcimaaGreatDoor.lawColdUnseen
