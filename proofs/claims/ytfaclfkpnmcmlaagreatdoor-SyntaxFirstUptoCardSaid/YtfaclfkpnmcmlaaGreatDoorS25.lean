import Derived.Test.YtfaclfkpnmcmlaaGreatDoorS00
import Derived.Deep.DeepHandedRow
import Derived.ProofKit
import Derived.SevenTiedAt
import Derived.Test.YtfaclfkpnmcmlaaGreatDoorRows
set_option maxHeartbeats 8000000
set_option linter.all false
namespace Go.Proofs.YtfaclfkpnmcmlaaGreatDoor
open Go
theorem RY:(mapsRowed Tryz.prog)=true:=by kernel_rfl
theorem RE:((Tryz.prog.stops == []))=true:=by kernel_rfl
theorem Qs:((Rows.syntaxFirstUptoRow.unfollowed == Tryz.prog.unfollowed 8))=true:=by kernel_rfl
theorem QH:((Rows.syntaxFirstUptoRow.ifaces == (Tryz.f8.params.toList++(OpenSpec.bare (Rows.OpenSpec.upto Rows.syntaxFirstSpec)).plain.varTypes Tryz.prog).any (Tryz.prog.ifacesRec ·)))=true:=by kernel_rfl
theorem P2:((OpenSpec.bare (Rows.OpenSpec.upto Rows.syntaxFirstSpec)).vars.all (Tryz.prog.varReadable ·))=true:=by kernel_rfl
theorem PE:((Rows.syntaxFirstUptoRow.plainKeys == Tryz.prog.plainKeys))=true:=by kernel_rfl
theorem PD:((Rows.syntaxFirstUptoRow.lifted == Tryz.prog.liftsFinal))=true:=by kernel_rfl
theorem P9:((Rows.syntaxFirstUptoRow.veiled == (Tryz.f8.params.toList++(OpenSpec.bare (Rows.OpenSpec.upto Rows.syntaxFirstSpec)).plain.varTypes Tryz.prog++Tryz.f8.resultTypes.toList).any (Tryz.prog.veiledRec ·)))=true:=by kernel_rfl
end Go.Proofs.YtfaclfkpnmcmlaaGreatDoor
