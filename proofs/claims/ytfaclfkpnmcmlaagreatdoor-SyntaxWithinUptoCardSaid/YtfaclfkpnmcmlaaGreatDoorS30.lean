import Derived.Test.YtfaclfkpnmcmlaaGreatDoorS00
import Derived.Deep.DeepHandedRow
import Derived.ProofKit
import Derived.SevenTiedAt
import Derived.Test.YtfaclfkpnmcmlaaGreatDoorRows
set_option maxHeartbeats 8000000
set_option linter.all false
namespace Go.Proofs.YtfaclfkpnmcmlaaGreatDoor
open Go
theorem RS:(laidOutB Tryz.prog)=true:=by kernel_rfl
theorem R2:((Rows.syntaxWithinUptoRow.stops == []))=true:=by kernel_rfl
theorem RP:((Rows.syntaxWithinUptoRow.inPlace == Tryz.prog.inPlace 9))=true:=by kernel_rfl
theorem P4:((Rows.syntaxWithinUptoRow.maps == (Tryz.f9.params.toList++(OpenSpec.bare (Rows.OpenSpec.upto Rows.syntaxWithinSpec)).plain.varTypes Tryz.prog).any (Tryz.prog.mapsRec ·)))=true:=by kernel_rfl
theorem QM:((Rows.syntaxWithinUptoRow.wideKeys == (Tryz.f9.params.toList++(OpenSpec.bare (Rows.OpenSpec.upto Rows.syntaxWithinSpec)).plain.varTypes Tryz.prog++Tryz.f9.resultTypes.toList).any (Tryz.prog.wideKeysFrom ·)))=true:=by kernel_rfl
theorem P0:((Rows.syntaxWithinUptoRow.loopsOut == Tryz.f9.resultTypes.toList.any (Tryz.prog.loopsFrom ·)))=true:=by kernel_rfl
theorem Qf:(Tryz.prog.mayEnter)=true:=by kernel_rfl
theorem QE:((Rows.syntaxWithinUptoRow.pinned == Rows.syntaxWithinUptoRow.pinnedBy))=true:=by kernel_rfl
end Go.Proofs.YtfaclfkpnmcmlaaGreatDoor
