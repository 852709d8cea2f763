import Derived.Deep.DeepHandedRow
import Derived.ProofKit
import Derived.SevenTiedAt
import Derived.Test.YtfaclfkpnmcmlaaGreatDoorRows
set_option maxHeartbeats 20000000
set_option linter.all false
section
namespace Go.Proofs.YtfaclfkpnmcmlaaGreatDoor
open Go
theorem jF1 : (laidOutB Tryz.prog) = true := by kernel_rfl
theorem jF5 : ((Rows.syntaxWalksUptoRow.stops == [])) = true := by kernel_rfl
theorem jF9 : ((Rows.syntaxWalksUptoRow.inPlace == Tryz.prog.inPlace 10)) = true := by kernel_rfl
theorem jF13 : ((Rows.syntaxWalksUptoRow.maps == (Tryz.f10.params.toList ++ (OpenSpec.bare (Rows.OpenSpec.upto Rows.syntaxWalksSpec)).plain.varTypes Tryz.prog).any (Tryz.prog.mapsRec ·))) = true := by kernel_rfl
theorem jF17 : ((Rows.syntaxWalksUptoRow.wideKeys == (Tryz.f10.params.toList ++ (OpenSpec.bare (Rows.OpenSpec.upto Rows.syntaxWalksSpec)).plain.varTypes Tryz.prog ++ Tryz.f10.resultTypes.toList).any (Tryz.prog.wideKeysFrom ·))) = true := by kernel_rfl
theorem jF21 : ((Rows.syntaxWalksUptoRow.loopsOut == Tryz.f10.resultTypes.toList.any (Tryz.prog.loopsFrom ·))) = true := by kernel_rfl
theorem jF25 : (Tryz.prog.mayEnter) = true := by kernel_rfl
theorem jF29 : ((Rows.syntaxWalksUptoRow.pinned == Rows.syntaxWalksUptoRow.pinnedBy)) = true := by kernel_rfl
end Go.Proofs.YtfaclfkpnmcmlaaGreatDoor
end
