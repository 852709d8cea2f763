import Derived.Deep.DeepHandedRow
import Derived.ProofKit
import Derived.SevenTiedAt
import Derived.Test.YtfaclfkpnmcmlaaGreatDoorRows
set_option maxHeartbeats 20000000
set_option linter.all false
section
namespace Go.Proofs.YtfaclfkpnmcmlaaGreatDoor
open Go
theorem jF2 : (mapsRowed Tryz.prog) = true := by kernel_rfl
theorem jF6 : ((Tryz.prog.stops == [])) = true := by kernel_rfl
theorem jF10 : ((Rows.syntaxWalksUptoRow.unfollowed == Tryz.prog.unfollowed 10)) = true := by kernel_rfl
theorem jF14 : ((Rows.syntaxWalksUptoRow.ifaces == (Tryz.f10.params.toList ++ (OpenSpec.bare (Rows.OpenSpec.upto Rows.syntaxWalksSpec)).plain.varTypes Tryz.prog).any (Tryz.prog.ifacesRec ·))) = true := by kernel_rfl
theorem jF18 : ((OpenSpec.bare (Rows.OpenSpec.upto Rows.syntaxWalksSpec)).vars.all (Tryz.prog.varReadable ·)) = true := by kernel_rfl
theorem jF22 : ((Rows.syntaxWalksUptoRow.plainKeys == Tryz.prog.plainKeys)) = true := by kernel_rfl
theorem jF26 : ((Rows.syntaxWalksUptoRow.lifted == Tryz.prog.liftsFinal)) = true := by kernel_rfl
theorem jF30 : ((Rows.syntaxWalksUptoRow.veiled == (Tryz.f10.params.toList ++ (OpenSpec.bare (Rows.OpenSpec.upto Rows.syntaxWalksSpec)).plain.varTypes Tryz.prog ++ Tryz.f10.resultTypes.toList).any (Tryz.prog.veiledRec ·))) = true := by kernel_rfl
end Go.Proofs.YtfaclfkpnmcmlaaGreatDoor
end
