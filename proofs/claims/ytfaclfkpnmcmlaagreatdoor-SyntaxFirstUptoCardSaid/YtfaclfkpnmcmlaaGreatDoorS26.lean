import Derived.Test.YtfaclfkpnmcmlaaGreatDoorS00
import Derived.Deep.DeepHandedRow
import Derived.ProofKit
import Derived.SevenTiedAt
import Derived.Test.YtfaclfkpnmcmlaaGreatDoorRows
set_option maxHeartbeats 8000000
set_option linter.all false
namespace Go.Proofs.YtfaclfkpnmcmlaaGreatDoor
open Go
theorem Ru:(Tryz.f8.params.all (Tryz.prog.readableRec ·))=true:=by kernel_rfl
theorem R3:((Rows.syntaxFirstUptoRow.knobs == []))=true:=by kernel_rfl
theorem Qe:((Rows.syntaxFirstUptoRow.recurses == Tryz.prog.recurses 8))=true:=by kernel_rfl
theorem PW:((Rows.syntaxFirstUptoRow.mapsOut == Tryz.prog.mapsAmong Tryz.f8.resultTypes.toList))=true:=by kernel_rfl
theorem PO:(Tryz.f8.resultTypes.all (fun t=>Tryz.prog.readableRec t && decide (t<Tryz.prog.types.size)))=true:=by kernel_rfl
theorem Qo:(Rows.syntaxFirstUptoRow.shortTexts.isNone)=true:=by kernel_rfl
theorem Qi:((Tryz.prog.make == some Rows.syntaxFirstUptoRow.make))=true:=by kernel_rfl
theorem PF:(Rows.syntaxFirstUptoRow.veiledFits Tryz.prog Tryz.f8.params.toList (Tryz.f8.params.toList++(OpenSpec.bare (Rows.OpenSpec.upto Rows.syntaxFirstSpec)).plain.varTypes Tryz.prog++Tryz.f8.resultTypes.toList))=true:=by kernel_rfl
end Go.Proofs.YtfaclfkpnmcmlaaGreatDoor
