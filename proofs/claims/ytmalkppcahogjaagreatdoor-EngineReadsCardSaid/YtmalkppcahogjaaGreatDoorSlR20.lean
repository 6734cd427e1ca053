/- Contracts; no condition but each theorem's own. -/
import Derived.JoinedCond
import Derived.ProofKit
import Derived.Test.YtmalkppcahogjaaGreatDoorCards
import Derived.Test.YtmalkppcahogjaaGreatDoorChecked
import Derived.Test.YtmalkppcahogjaaGreatDoorRows
import Derived.WalkKit
set_option linter.unusedVariables false
set_option linter.unusedSimpArgs false
set_option maxHeartbeats 8000000
set_option maxRecDepth 100000
namespace Go.Proofs.YtmalkppcahogjaaGreatDoor.lawEngineReads
open Go.ChangeShapes Go.WideShapes Go.ChangeAt Go.RowKit
theorem cl0:Tryz.pinned.checked.prog.inPlace 9=Rows.engineReadsRow.inPlace:=by kernel_rfl
theorem cl1:Tryz.pinned.checked.prog.unfollowed 9=Rows.engineReadsRow.unfollowed:=by kernel_rfl
theorem cl2:Tryz.pinned.checked.prog.recurses 9=Rows.engineReadsRow.recurses:=by kernel_rfl
theorem cl3:Tryz.pinned.checked.prog.varsNamed 9=Rows.engineReadsRow.named:=by kernel_rfl
theorem cl4:Rows.engineReadsRow.wfByText (OpenSpec.ofChange Rows.engineReadsSpec)=true:=by kernel_rfl
theorem cl5:Tryz.pinned.checked.prog.mainIs=some (Rows.engineReadsCard.stood.harness.1,Rows.engineReadsCard.stood.harness.2.toList):=by kernel_rfl
theorem cl6:false=Rows.engineReadsRow.goesBy Tryz.pinned.checked.prog:=by kernel_rfl
theorem closed:joinedFacts Tryz.pinned.checked.prog 9 Tryz.f9 (OpenSpec.ofChange Rows.engineReadsSpec).bare Rows.engineReadsRow=true:=by
 unfold joinedFacts;rw[cl0,cl1,cl2,cl3]
 kernel_rfl
end Go.Proofs.YtmalkppcahogjaaGreatDoor.lawEngineReads
