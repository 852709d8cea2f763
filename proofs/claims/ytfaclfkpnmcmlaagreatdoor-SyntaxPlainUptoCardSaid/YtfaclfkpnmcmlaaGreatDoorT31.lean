import Derived.Test.YtfaclfkpnmcmlaaGreatDoorT00
import Derived.Deep.DeepHandedRow
import Derived.ProofKit
import Derived.SevenTiedAt
import Derived.Test.YtfaclfkpnmcmlaaGreatDoorRows
set_option maxHeartbeats 8000000
set_option linter.all false
open Go.Proofs.Tryz
namespace Go.Proofs.YtfaclfkpnmcmlaaGreatDoor
open Go
theorem Zn:(f3.params.all (prog.readableRec ·))=true:=by kernel_rfl
theorem Zo:((Rows.syntaxPlainUptoRow.knobs == []))=true:=by kernel_rfl
theorem Yj:((Rows.syntaxPlainUptoRow.recurses == prog.recurses 3))=true:=by kernel_rfl
theorem X4:((Rows.syntaxPlainUptoRow.mapsOut == prog.mapsAmong f3.resultTypes.toList))=true:=by kernel_rfl
theorem Xg:(f3.resultTypes.all (fun t=>prog.readableRec t && decide (t<prog.types.size)))=true:=by kernel_rfl
theorem XS:(Rows.syntaxPlainUptoRow.shortTexts.isNone)=true:=by kernel_rfl
theorem Yi:((prog.make == some Rows.syntaxPlainUptoRow.make))=true:=by kernel_rfl
theorem XD:(Rows.syntaxPlainUptoRow.veiledFits prog f3.params.toList (f3.params.toList++(OpenSpec.bare (Rows.OpenSpec.upto Rows.syntaxPlainSpec)).plain.varTypes prog++f3.resultTypes.toList))=true:=by kernel_rfl
end Go.Proofs.YtfaclfkpnmcmlaaGreatDoor
