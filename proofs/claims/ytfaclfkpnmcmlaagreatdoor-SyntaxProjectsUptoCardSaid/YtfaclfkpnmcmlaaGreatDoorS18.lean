import Derived.Test.YtfaclfkpnmcmlaaGreatDoorS00
import Derived.Deep.DeepHandedRow
import Derived.ProofKit
import Derived.SevenTiedAt
import Derived.Test.YtfaclfkpnmcmlaaGreatDoorRows
set_option maxHeartbeats 8000000
set_option linter.all false
namespace Go.Proofs.YtfaclfkpnmcmlaaGreatDoor
open Go
theorem RS:(laidOutB Tryz.prog)=true:=by kernel_rfl
theorem R2:((Rows.syntaxProjectsUptoRow.stops == []))=true:=by kernel_rfl
theorem RP:((Rows.syntaxProjectsUptoRow.inPlace == Tryz.prog.inPlace 7))=true:=by kernel_rfl
theorem P4:((Rows.syntaxProjectsUptoRow.maps == (Tryz.f7.params.toList++(OpenSpec.bare (Rows.OpenSpec.upto Rows.syntaxProjectsSpec)).plain.varTypes Tryz.prog).any (Tryz.prog.mapsRec ·)))=true:=by kernel_rfl
theorem QM:((Rows.syntaxProjectsUptoRow.wideKeys == (Tryz.f7.params.toList++(OpenSpec.bare (Rows.OpenSpec.upto Rows.syntaxProjectsSpec)).plain.varTypes Tryz.prog++Tryz.f7.resultTypes.toList).any (Tryz.prog.wideKeysFrom ·)))=true:=by kernel_rfl
theorem P0:((Rows.syntaxProjectsUptoRow.loopsOut == Tryz.f7.resultTypes.toList.any (Tryz.prog.loopsFrom ·)))=true:=by kernel_rfl
theorem Qf:(Tryz.prog.mayEnter)=true:=by kernel_rfl
theorem QE:((Rows.syntaxProjectsUptoRow.pinned == Rows.syntaxProjectsUptoRow.pinnedBy))=true:=by kernel_rfl
end Go.Proofs.YtfaclfkpnmcmlaaGreatDoor
