import Derived.Test.YtfaclfkpnmcmlaaGreatDoorT00
import Derived.Deep.DeepHandedRow
import Derived.ProofKit
import Derived.SevenTiedAt
import Derived.Test.YtfaclfkpnmcmlaaGreatDoorRows
set_option maxHeartbeats 8000000
set_option linter.all false
open Go.Proofs.Tryz
namespace Go.Proofs.YtfaclfkpnmcmlaaGreatDoor
open Go
theorem ZI:(mapsRowed prog)=true:=by kernel_rfl
theorem YQ:((prog.stops == []))=true:=by kernel_rfl
theorem XX:((Rows.syntaxPlainUptoRow.unfollowed == prog.unfollowed 3))=true:=by kernel_rfl
theorem XC:((Rows.syntaxPlainUptoRow.ifaces == (f3.params.toList++(OpenSpec.bare (Rows.OpenSpec.upto Rows.syntaxPlainSpec)).plain.varTypes prog).any (prog.ifacesRec ·)))=true:=by kernel_rfl
theorem XQ:((OpenSpec.bare (Rows.OpenSpec.upto Rows.syntaxPlainSpec)).vars.all (prog.varReadable ·))=true:=by kernel_rfl
theorem XG:((Rows.syntaxPlainUptoRow.plainKeys == prog.plainKeys))=true:=by kernel_rfl
theorem Yn:((Rows.syntaxPlainUptoRow.lifted == prog.liftsFinal))=true:=by kernel_rfl
theorem XR:((Rows.syntaxPlainUptoRow.veiled == (f3.params.toList++(OpenSpec.bare (Rows.OpenSpec.upto Rows.syntaxPlainSpec)).plain.varTypes prog++f3.resultTypes.toList).any (prog.veiledRec ·)))=true:=by kernel_rfl
end Go.Proofs.YtfaclfkpnmcmlaaGreatDoor
