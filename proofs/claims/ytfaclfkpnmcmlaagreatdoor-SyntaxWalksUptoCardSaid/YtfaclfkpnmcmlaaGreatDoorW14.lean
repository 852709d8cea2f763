import Derived.Deep.DeepHandedRow
import Derived.ProofKit
import Derived.SevenTiedAt
import Derived.Test.YtfaclfkpnmcmlaaGreatDoorRows
set_option maxHeartbeats 20000000
set_option linter.all false
section
namespace Go.Proofs.YtfaclfkpnmcmlaaGreatDoor
open Go
theorem jF0 : (Rows.syntaxWalksUptoRow.wf (OpenSpec.ofChange (OpenSpec.bare (Rows.OpenSpec.upto Rows.syntaxWalksSpec)))) = true := by kernel_rfl
theorem jF4 : (namedTie Tryz.prog Rows.syntaxWalksUptoRow.named (OpenSpec.bare (Rows.OpenSpec.upto Rows.syntaxWalksSpec)).vars) = true := by kernel_rfl
theorem jF8 : ((Tryz.prog.stopKnobs == [])) = true := by kernel_rfl
theorem jF12 : ((Rows.syntaxWalksUptoRow.named == Tryz.prog.varsNamed 10)) = true := by kernel_rfl
theorem jF16 : ((Rows.syntaxWalksUptoRow.loops == (Tryz.f10.params.toList ++ (OpenSpec.bare (Rows.OpenSpec.upto Rows.syntaxWalksSpec)).plain.varTypes Tryz.prog).any (Tryz.prog.loopsFrom ·))) = true := by kernel_rfl
theorem jF20 : ((Rows.syntaxWalksUptoRow.ifacesOut == Tryz.f10.resultTypes.toList.any (Tryz.prog.ifacesRec ·))) = true := by kernel_rfl
theorem jF24 : (Tryz.prog.stopsHeard) = true := by kernel_rfl
theorem jF28 : ((Rows.syntaxWalksUptoRow.kinds == (if Rows.syntaxWalksUptoRow.domain.isEmpty then [] else Tryz.f10.params.toList.map fun t => match Tryz.prog.underlying t with | some (.int k) => some k | _ => none))) = true := by kernel_rfl
theorem jC1 : Rows.syntaxWalksUptoRow.wfByText (Rows.OpenSpec.upto Rows.syntaxWalksSpec) = true := by kernel_rfl
theorem jC2 : Tryz.prog.mainIs = some (true, ("fb6f3cea10b2bce7ccd9e68c58951443a6981fe33c0f78952a9ec7f837153f3e" : String).toList) := by kernel_rfl
theorem jC3 : Tryz.prog.funcNamed "motley/motleylaw07.SyntaxWalks" = some 10 := by kernel_rfl
theorem jC4 : true = Tryz.prog.looks [] := by kernel_rfl
theorem jC5 : ([94, 94, 81].all fun u => !Tryz.prog.wantsStandIn u) = true := by kernel_rfl
theorem jC6 : false = Rows.syntaxWalksUptoRow.goesBy Tryz.prog := by kernel_rfl
theorem jC7 : Tryz.f10.isInstance Tryz.prog Rows.syntaxWalksUptoRow.origin Rows.syntaxWalksUptoRow.targs := of_decide_eq_true (by kernel_rfl)
end Go.Proofs.YtfaclfkpnmcmlaaGreatDoor
end
