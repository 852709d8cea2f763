import Derived.Test.YtfaclfkpnmcmlaaGreatDoorS00
import Derived.Deep.DeepHandedRow
import Derived.ProofKit
import Derived.SevenTiedAt
import Derived.Test.YtfaclfkpnmcmlaaGreatDoorRows
set_option maxHeartbeats 8000000
set_option linter.all false
namespace Go.Proofs.YtfaclfkpnmcmlaaGreatDoor
open Go
theorem RY:(mapsRowed Tryz.prog)=true:=by kernel_rfl
theorem RE:((Tryz.prog.stops == []))=true:=by kernel_rfl
theorem Qs:((Rows.syntaxProjectsUptoRow.unfollowed == Tryz.prog.unfollowed 7))=true:=by kernel_rfl
theorem QH:((Rows.syntaxProjectsUptoRow.ifaces == (Tryz.f7.params.toList++(OpenSpec.bare (Rows.OpenSpec.upto Rows.syntaxProjectsSpec)).plain.varTypes Tryz.prog).any (Tryz.prog.ifacesRec ·)))=true:=by kernel_rfl
theorem P2:((OpenSpec.bare (Rows.OpenSpec.upto Rows.syntaxProjectsSpec)).vars.all (Tryz.prog.varReadable ·))=true:=by kernel_rfl
theorem PE:((Rows.syntaxProjectsUptoRow.plainKeys == Tryz.prog.plainKeys))=true:=by kernel_rfl
theorem PD:((Rows.syntaxProjectsUptoRow.lifted == Tryz.prog.liftsFinal))=true:=by kernel_rfl
theorem P9:((Rows.syntaxProjectsUptoRow.veiled == (Tryz.f7.params.toList++(OpenSpec.bare (Rows.OpenSpec.upto Rows.syntaxProjectsSpec)).plain.varTypes Tryz.prog++Tryz.f7.resultTypes.toList).any (Tryz.prog.veiledRec ·)))=true:=by kernel_rfl
end Go.Proofs.YtfaclfkpnmcmlaaGreatDoor
