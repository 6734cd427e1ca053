/- Contracts; no condition but each theorem's own. -/
import Derived.Test.YtmkhmejempcimaaGreatDoorSlU37
set_option linter.unusedVariables false
set_option linter.unusedSimpArgs false
set_option maxHeartbeats 8000000
set_option maxRecDepth 100000
namespace Go.Proofs.YtmkhmejempcimaaGreatDoor.lawColdGathers
open Go.ChangeShapes Go.WideShapes Go.ChangeAt Go.RowKit
theorem cl0:Tryz.pinned.checked.prog.inPlace 4=Rows.coldGathersRow.inPlace:=by kernel_rfl
theorem cl1:Tryz.pinned.checked.prog.unfollowed 4=Rows.coldGathersRow.unfollowed:=by kernel_rfl
theorem cl2:Tryz.pinned.checked.prog.recurses 4=Rows.coldGathersRow.recurses:=by kernel_rfl
theorem cl3:Tryz.pinned.checked.prog.varsNamed 4=Rows.coldGathersRow.named:=by kernel_rfl
theorem cl4:Rows.coldGathersRow.wfByText (OpenSpec.ofChange Rows.coldGathersSpec)=true:=by kernel_rfl
theorem cl5:Tryz.pinned.checked.prog.mainIs=some (Rows.coldGathersCard.stood.harness.1,Rows.coldGathersCard.stood.harness.2.toList):=by kernel_rfl
theorem cl6:false=Rows.coldGathersRow.goesBy Tryz.pinned.checked.prog:=by kernel_rfl
theorem closed:joinedFacts Tryz.pinned.checked.prog 4 Tryz.f4 (OpenSpec.ofChange Rows.coldGathersSpec).bare Rows.coldGathersRow=true:=by
 unfold joinedFacts;rw[cl0,cl1,cl2,cl3]
 kernel_rfl
end Go.Proofs.YtmkhmejempcimaaGreatDoor.lawColdGathers
