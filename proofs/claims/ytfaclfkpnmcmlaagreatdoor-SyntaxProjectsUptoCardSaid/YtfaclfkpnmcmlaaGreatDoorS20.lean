import Derived.Test.YtfaclfkpnmcmlaaGreatDoorS00
import Derived.Deep.DeepHandedRow
import Derived.ProofKit
import Derived.SevenTiedAt
import Derived.Test.YtfaclfkpnmcmlaaGreatDoorRows
set_option maxHeartbeats 8000000
set_option linter.all false
namespace Go.Proofs.YtfaclfkpnmcmlaaGreatDoor
open Go
theorem Ru:(Tryz.f7.params.all (Tryz.prog.readableRec ·))=true:=by kernel_rfl
theorem R3:((Rows.syntaxProjectsUptoRow.knobs == []))=true:=by kernel_rfl
theorem Qe:((Rows.syntaxProjectsUptoRow.recurses == Tryz.prog.recurses 7))=true:=by kernel_rfl
theorem PW:((Rows.syntaxProjectsUptoRow.mapsOut == Tryz.prog.mapsAmong Tryz.f7.resultTypes.toList))=true:=by kernel_rfl
theorem PO:(Tryz.f7.resultTypes.all (fun t=>Tryz.prog.readableRec t && decide (t<Tryz.prog.types.size)))=true:=by kernel_rfl
theorem Qo:(Rows.syntaxProjectsUptoRow.shortTexts.isNone)=true:=by kernel_rfl
theorem Qi:((Tryz.prog.make == some Rows.syntaxProjectsUptoRow.make))=true:=by kernel_rfl
theorem PF:(Rows.syntaxProjectsUptoRow.veiledFits Tryz.prog Tryz.f7.params.toList (Tryz.f7.params.toList++(OpenSpec.bare (Rows.OpenSpec.upto Rows.syntaxProjectsSpec)).plain.varTypes Tryz.prog++Tryz.f7.resultTypes.toList))=true:=by kernel_rfl
end Go.Proofs.YtfaclfkpnmcmlaaGreatDoor
