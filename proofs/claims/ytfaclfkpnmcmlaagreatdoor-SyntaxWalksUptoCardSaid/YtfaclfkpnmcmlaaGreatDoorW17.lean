import Derived.Deep.DeepHandedRow
import Derived.ProofKit
import Derived.SevenTiedAt
import Derived.Test.YtfaclfkpnmcmlaaGreatDoorRows
set_option maxHeartbeats 20000000
set_option linter.all false
section
namespace Go.Proofs.YtfaclfkpnmcmlaaGreatDoor
open Go
theorem jF3 : (Tryz.f10.params.all (Tryz.prog.readableRec ·)) = true := by kernel_rfl
theorem jF7 : ((Rows.syntaxWalksUptoRow.knobs == [])) = true := by kernel_rfl
theorem jF11 : ((Rows.syntaxWalksUptoRow.recurses == Tryz.prog.recurses 10)) = true := by kernel_rfl
theorem jF15 : ((Rows.syntaxWalksUptoRow.mapsOut == Tryz.prog.mapsAmong Tryz.f10.resultTypes.toList)) = true := by kernel_rfl
theorem jF19 : (Tryz.f10.resultTypes.all (fun t => Tryz.prog.readableRec t && decide (t < Tryz.prog.types.size))) = true := by kernel_rfl
theorem jF23 : (Rows.syntaxWalksUptoRow.shortTexts.isNone) = true := by kernel_rfl
theorem jF27 : ((Tryz.prog.make == some Rows.syntaxWalksUptoRow.make)) = true := by kernel_rfl
theorem jF31 : (Rows.syntaxWalksUptoRow.veiledFits Tryz.prog Tryz.f10.params.toList (Tryz.f10.params.toList ++ (OpenSpec.bare (Rows.OpenSpec.upto Rows.syntaxWalksSpec)).plain.varTypes Tryz.prog ++ Tryz.f10.resultTypes.toList)) = true := by kernel_rfl
end Go.Proofs.YtfaclfkpnmcmlaaGreatDoor
end
