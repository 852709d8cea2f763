import Derived.Test.YtfaclfkpnmcmlaaGreatDoorE00
import Derived.Deep.DeepHandedRow
import Derived.ProofKit
import Derived.SevenTiedAt
import Derived.Test.YtfaclfkpnmcmlaaGreatDoorRows
set_option maxHeartbeats 8000000
set_option linter.all false
namespace Go.Proofs.YtfaclfkpnmcmlaaGreatDoor
open Go
theorem ZI:(mapsRowed Tryz.prog)=true:=by kernel_rfl
theorem YQ:((Tryz.prog.stops == []))=true:=by kernel_rfl
theorem XX:((Rows.syntaxExpressionRow.unfollowed == Tryz.prog.unfollowed 6))=true:=by kernel_rfl
theorem XC:((Rows.syntaxExpressionRow.ifaces == (Tryz.f6.params.toList++(OpenSpec.bare (OpenSpec.ofChange Rows.syntaxExpressionSpec)).plain.varTypes Tryz.prog).any (Tryz.prog.ifacesRec ·)))=true:=by kernel_rfl
theorem XQ:((OpenSpec.bare (OpenSpec.ofChange Rows.syntaxExpressionSpec)).vars.all (Tryz.prog.varReadable ·))=true:=by kernel_rfl
theorem XG:((Rows.syntaxExpressionRow.plainKeys == Tryz.prog.plainKeys))=true:=by kernel_rfl
theorem Yn:((Rows.syntaxExpressionRow.lifted == Tryz.prog.liftsFinal))=true:=by kernel_rfl
theorem XR:((Rows.syntaxExpressionRow.veiled == (Tryz.f6.params.toList++(OpenSpec.bare (OpenSpec.ofChange Rows.syntaxExpressionSpec)).plain.varTypes Tryz.prog++Tryz.f6.resultTypes.toList).any (Tryz.prog.veiledRec ·)))=true:=by kernel_rfl
end Go.Proofs.YtfaclfkpnmcmlaaGreatDoor
