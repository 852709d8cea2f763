import Derived.Test.YtfaclfkpnmcmlaaGreatDoorS00
import Derived.Deep.DeepHandedRow
import Derived.ProofKit
import Derived.SevenTiedAt
import Derived.Test.YtfaclfkpnmcmlaaGreatDoorRows
set_option maxHeartbeats 8000000
set_option linter.all false
namespace Go.Proofs.YtfaclfkpnmcmlaaGreatDoor
open Go
theorem Ru:(Tryz.f9.params.all (Tryz.prog.readableRec ·))=true:=by kernel_rfl
theorem R3:((Rows.syntaxWithinUptoRow.knobs == []))=true:=by kernel_rfl
theorem Qe:((Rows.syntaxWithinUptoRow.recurses == Tryz.prog.recurses 9))=true:=by kernel_rfl
theorem PW:((Rows.syntaxWithinUptoRow.mapsOut == Tryz.prog.mapsAmong Tryz.f9.resultTypes.toList))=true:=by kernel_rfl
theorem PO:(Tryz.f9.resultTypes.all (fun t=>Tryz.prog.readableRec t && decide (t<Tryz.prog.types.size)))=true:=by kernel_rfl
theorem Qo:(Rows.syntaxWithinUptoRow.shortTexts.isNone)=true:=by kernel_rfl
theorem Qi:((Tryz.prog.make == some Rows.syntaxWithinUptoRow.make))=true:=by kernel_rfl
theorem PF:(Rows.syntaxWithinUptoRow.veiledFits Tryz.prog Tryz.f9.params.toList (Tryz.f9.params.toList++(OpenSpec.bare (Rows.OpenSpec.upto Rows.syntaxWithinSpec)).plain.varTypes Tryz.prog++Tryz.f9.resultTypes.toList))=true:=by kernel_rfl
end Go.Proofs.YtfaclfkpnmcmlaaGreatDoor
