/-
  DERIVED. GIVEN WITH THE SEED: THE CARDS: each row of YtfaclfkpnmcmlaaGreatDoorRows.lean that lists a variable, with what it lists TIED to the program's text (the seventh form; the later family's looks); each row that meets fmt, with fmt's text TOLD by the authors' own Lean function (tested against real Go, not proved from fmt's source: count such statements apart). THE CARD IS WHAT COUNTS. Prove the row's statement (the work); the ties are given (YtfaclfkpnmcmlaaGreatDoorTie.lean); close each card by the builder's one call (the guide's Derived/Test/ToyasCard.lean, 'card_holds'). Laid BY PROGRAM, IN A SANDBOX (cutbox-door.mjs). By AI agents, Wed Nov 11 2026. No macro, syntax, notation, axiom, sorry.
-/
import Derived.Test.YtfaclfkpnmcmlaaGreatDoorRows
import GoSem.ClaimSeven
namespace Go.Proofs.YtfaclfkpnmcmlaaGreatDoor
namespace Rows

/-- THE TIED CARD OF 'motleylaw07.SyntaxPlain'. -/
def syntaxPlainCard : Claim7 := { stood := { row := syntaxPlainRow, standIns := [], harness := (true, "fb6f3cea10b2bce7ccd9e68c58951443a6981fe33c0f78952a9ec7f837153f3e"), looks := true }, kinds := [], alts := [], laidByText := true, laidKinds := [.data, .data, .data, .sentinel, .sentinel, .data], laidTests := true, laidLooks := .later }
def SyntaxPlainCardSaid : Prop := Claim7.holds Tryz.pinned (.plain (OpenSpec.ofChange syntaxPlainSpec)) syntaxPlainCard

/-- THE TIED CARD OF 'motleylaw07.SyntaxFamily'. -/
def syntaxFamilyCard : Claim7 := { stood := { row := syntaxFamilyRow, standIns := [], harness := (true, "fb6f3cea10b2bce7ccd9e68c58951443a6981fe33c0f78952a9ec7f837153f3e"), looks := true }, kinds := [], alts := [], laidByText := true, laidKinds := [.data, .data, .data, .sentinel, .sentinel, .data], laidTests := true, laidLooks := .later }
def SyntaxFamilyCardSaid : Prop := Claim7.holds Tryz.pinned (.plain (OpenSpec.ofChange syntaxFamilySpec)) syntaxFamilyCard

/-- THE TIED CARD OF 'motleylaw07.SyntaxShared'. -/
def syntaxSharedCard : Claim7 := { stood := { row := syntaxSharedRow, standIns := [], harness := (true, "fb6f3cea10b2bce7ccd9e68c58951443a6981fe33c0f78952a9ec7f837153f3e"), looks := true }, kinds := [], alts := [], laidByText := true, laidKinds := [.data, .data, .data, .sentinel, .sentinel, .data], laidTests := true, laidLooks := .later }
def SyntaxSharedCardSaid : Prop := Claim7.holds Tryz.pinned (.plain (OpenSpec.ofChange syntaxSharedSpec)) syntaxSharedCard

/-- THE TIED CARD OF 'motleylaw07.SyntaxExpression'. -/
def syntaxExpressionCard : Claim7 := { stood := { row := syntaxExpressionRow, standIns := [], harness := (true, "fb6f3cea10b2bce7ccd9e68c58951443a6981fe33c0f78952a9ec7f837153f3e"), looks := true }, kinds := [], alts := [], laidByText := true, laidKinds := [.data, .data, .data, .sentinel, .sentinel, .data], laidTests := true, laidLooks := .later }
def SyntaxExpressionCardSaid : Prop := Claim7.holds Tryz.pinned (.plain (OpenSpec.ofChange syntaxExpressionSpec)) syntaxExpressionCard

/-- THE TIED CARD OF 'motleylaw07.SyntaxProjects'. -/
def syntaxProjectsCard : Claim7 := { stood := { row := syntaxProjectsRow, standIns := [], harness := (true, "fb6f3cea10b2bce7ccd9e68c58951443a6981fe33c0f78952a9ec7f837153f3e"), looks := true }, kinds := [], alts := [], laidByText := true, laidKinds := [.data, .data, .data, .sentinel, .sentinel, .data], laidTests := true, laidLooks := .later }
def SyntaxProjectsCardSaid : Prop := Claim7.holds Tryz.pinned (.plain (OpenSpec.ofChange syntaxProjectsSpec)) syntaxProjectsCard

/-- THE TIED CARD OF 'motleylaw07.SyntaxFirst'. -/
def syntaxFirstCard : Claim7 := { stood := { row := syntaxFirstRow, standIns := [], harness := (true, "fb6f3cea10b2bce7ccd9e68c58951443a6981fe33c0f78952a9ec7f837153f3e"), looks := true }, kinds := [], alts := [], laidByText := true, laidKinds := [.data, .data, .data, .sentinel, .sentinel, .data], laidTests := true, laidLooks := .later }
def SyntaxFirstCardSaid : Prop := Claim7.holds Tryz.pinned (.plain (OpenSpec.ofChange syntaxFirstSpec)) syntaxFirstCard

/-- THE TIED CARD OF 'motleylaw07.SyntaxWithin'. -/
def syntaxWithinCard : Claim7 := { stood := { row := syntaxWithinRow, standIns := [], harness := (true, "fb6f3cea10b2bce7ccd9e68c58951443a6981fe33c0f78952a9ec7f837153f3e"), looks := true }, kinds := [], alts := [], laidByText := true, laidKinds := [.data, .data, .data, .sentinel, .sentinel, .data], laidTests := true, laidLooks := .later }
def SyntaxWithinCardSaid : Prop := Claim7.holds Tryz.pinned (.plain (OpenSpec.ofChange syntaxWithinSpec)) syntaxWithinCard

/-- THE TIED CARD OF 'motleylaw07.SyntaxWalks'. -/
def syntaxWalksCard : Claim7 := { stood := { row := syntaxWalksRow, standIns := [], harness := (true, "fb6f3cea10b2bce7ccd9e68c58951443a6981fe33c0f78952a9ec7f837153f3e"), looks := true }, kinds := [], alts := [], laidByText := true, laidKinds := [.data, .data, .data, .sentinel, .sentinel, .data], laidTests := true, laidLooks := .later }
def SyntaxWalksCardSaid : Prop := Claim7.holds Tryz.pinned (.plain (OpenSpec.ofChange syntaxWalksSpec)) syntaxWalksCard

/-- THE TIED CARD OF 'motleylaw07.SyntaxValid'. -/
def syntaxValidCard : Claim7 := { stood := { row := syntaxValidRow, standIns := [], harness := (true, "fb6f3cea10b2bce7ccd9e68c58951443a6981fe33c0f78952a9ec7f837153f3e"), looks := true }, kinds := [], alts := [], laidByText := true, laidKinds := [.data, .data, .data, .sentinel, .sentinel, .data], laidTests := true, laidLooks := .later }
def SyntaxValidCardSaid : Prop := Claim7.holds Tryz.pinned (.plain (OpenSpec.ofChange syntaxValidSpec)) syntaxValidCard

/-- THE TIED CARD OF 'motleylaw07.SyntaxTrees'. -/
def syntaxTreesCard : Claim7 := { stood := { row := syntaxTreesRow, standIns := [], harness := (true, "fb6f3cea10b2bce7ccd9e68c58951443a6981fe33c0f78952a9ec7f837153f3e"), looks := true }, kinds := [], alts := [], laidByText := true, laidKinds := [.data, .data, .data, .sentinel, .sentinel, .data], laidTests := true, laidLooks := .later }
def SyntaxTreesCardSaid : Prop := Claim7.holds Tryz.pinned (.plain (OpenSpec.ofChange syntaxTreesSpec)) syntaxTreesCard

/-- THE TIED CARD OF 'motleylaw07.SyntaxUniform'. -/
def syntaxUniformCard : Claim7 := { stood := { row := syntaxUniformRow, standIns := [], harness := (true, "fb6f3cea10b2bce7ccd9e68c58951443a6981fe33c0f78952a9ec7f837153f3e"), looks := true }, kinds := [], alts := [], laidByText := true, laidKinds := [.data, .data, .data, .sentinel, .sentinel, .data], laidTests := true, laidLooks := .later }
def SyntaxUniformCardSaid : Prop := Claim7.holds Tryz.pinned (.plain (OpenSpec.ofChange syntaxUniformSpec)) syntaxUniformCard

/-- THE TIED CARD OF 'motleylaw07.SyntaxAsks'. -/
def syntaxAsksCard : Claim7 := { stood := { row := syntaxAsksRow, standIns := [], harness := (true, "fb6f3cea10b2bce7ccd9e68c58951443a6981fe33c0f78952a9ec7f837153f3e"), looks := true }, kinds := [], alts := [], laidByText := true, laidKinds := [.data, .data, .data, .sentinel, .sentinel, .data], laidTests := true, laidLooks := .later }
def SyntaxAsksCardSaid : Prop := Claim7.holds Tryz.pinned (.plain (OpenSpec.ofChange syntaxAsksSpec)) syntaxAsksCard

/-- THE TIED CARD OF 'motleylaw07.SyntaxPrograms'. -/
def syntaxProgramsCard : Claim7 := { stood := { row := syntaxProgramsRow, standIns := [], harness := (true, "fb6f3cea10b2bce7ccd9e68c58951443a6981fe33c0f78952a9ec7f837153f3e"), looks := true }, kinds := [], alts := [], laidByText := true, laidKinds := [.data, .data, .data, .sentinel, .sentinel, .data], laidTests := true, laidLooks := .later }
def SyntaxProgramsCardSaid : Prop := Claim7.holds Tryz.pinned (.plain (OpenSpec.ofChange syntaxProgramsSpec)) syntaxProgramsCard

/-- THE SECOND FORM's CARD OF 'motleylaw07.SyntaxPlain'. -/
def syntaxPlainUptoCard : Claim7 := { stood := { row := syntaxPlainUptoRow, standIns := [], harness := (true, "fb6f3cea10b2bce7ccd9e68c58951443a6981fe33c0f78952a9ec7f837153f3e"), looks := true }, kinds := [], alts := [], laidByText := true, laidKinds := [.data, .data, .data, .sentinel, .sentinel, .data], laidTests := true, laidLooks := .later }
def SyntaxPlainUptoCardSaid : Prop := Claim7.holds Tryz.pinned (.plain (OpenSpec.upto syntaxPlainSpec)) syntaxPlainUptoCard

/-- THE SECOND FORM's CARD OF 'motleylaw07.SyntaxFamily'. -/
def syntaxFamilyUptoCard : Claim7 := { stood := { row := syntaxFamilyUptoRow, standIns := [], harness := (true, "fb6f3cea10b2bce7ccd9e68c58951443a6981fe33c0f78952a9ec7f837153f3e"), looks := true }, kinds := [], alts := [], laidByText := true, laidKinds := [.data, .data, .data, .sentinel, .sentinel, .data], laidTests := true, laidLooks := .later }
def SyntaxFamilyUptoCardSaid : Prop := Claim7.holds Tryz.pinned (.plain (OpenSpec.upto syntaxFamilySpec)) syntaxFamilyUptoCard

/-- THE SECOND FORM's CARD OF 'motleylaw07.SyntaxShared'. -/
def syntaxSharedUptoCard : Claim7 := { stood := { row := syntaxSharedUptoRow, standIns := [], harness := (true, "fb6f3cea10b2bce7ccd9e68c58951443a6981fe33c0f78952a9ec7f837153f3e"), looks := true }, kinds := [], alts := [], laidByText := true, laidKinds := [.data, .data, .data, .sentinel, .sentinel, .data], laidTests := true, laidLooks := .later }
def SyntaxSharedUptoCardSaid : Prop := Claim7.holds Tryz.pinned (.plain (OpenSpec.upto syntaxSharedSpec)) syntaxSharedUptoCard

/-- THE SECOND FORM's CARD OF 'motleylaw07.SyntaxExpression'. -/
def syntaxExpressionUptoCard : Claim7 := { stood := { row := syntaxExpressionUptoRow, standIns := [], harness := (true, "fb6f3cea10b2bce7ccd9e68c58951443a6981fe33c0f78952a9ec7f837153f3e"), looks := true }, kinds := [], alts := [], laidByText := true, laidKinds := [.data, .data, .data, .sentinel, .sentinel, .data], laidTests := true, laidLooks := .later }
def SyntaxExpressionUptoCardSaid : Prop := Claim7.holds Tryz.pinned (.plain (OpenSpec.upto syntaxExpressionSpec)) syntaxExpressionUptoCard

/-- THE SECOND FORM's CARD OF 'motleylaw07.SyntaxProjects'. -/
def syntaxProjectsUptoCard : Claim7 := { stood := { row := syntaxProjectsUptoRow, standIns := [], harness := (true, "fb6f3cea10b2bce7ccd9e68c58951443a6981fe33c0f78952a9ec7f837153f3e"), looks := true }, kinds := [], alts := [], laidByText := true, laidKinds := [.data, .data, .data, .sentinel, .sentinel, .data], laidTests := true, laidLooks := .later }
def SyntaxProjectsUptoCardSaid : Prop := Claim7.holds Tryz.pinned (.plain (OpenSpec.upto syntaxProjectsSpec)) syntaxProjectsUptoCard

/-- THE SECOND FORM's CARD OF 'motleylaw07.SyntaxFirst'. -/
def syntaxFirstUptoCard : Claim7 := { stood := { row := syntaxFirstUptoRow, standIns := [], harness := (true, "fb6f3cea10b2bce7ccd9e68c58951443a6981fe33c0f78952a9ec7f837153f3e"), looks := true }, kinds := [], alts := [], laidByText := true, laidKinds := [.data, .data, .data, .sentinel, .sentinel, .data], laidTests := true, laidLooks := .later }
def SyntaxFirstUptoCardSaid : Prop := Claim7.holds Tryz.pinned (.plain (OpenSpec.upto syntaxFirstSpec)) syntaxFirstUptoCard

/-- THE SECOND FORM's CARD OF 'motleylaw07.SyntaxWithin'. -/
def syntaxWithinUptoCard : Claim7 := { stood := { row := syntaxWithinUptoRow, standIns := [], harness := (true, "fb6f3cea10b2bce7ccd9e68c58951443a6981fe33c0f78952a9ec7f837153f3e"), looks := true }, kinds := [], alts := [], laidByText := true, laidKinds := [.data, .data, .data, .sentinel, .sentinel, .data], laidTests := true, laidLooks := .later }
def SyntaxWithinUptoCardSaid : Prop := Claim7.holds Tryz.pinned (.plain (OpenSpec.upto syntaxWithinSpec)) syntaxWithinUptoCard

/-- THE SECOND FORM's CARD OF 'motleylaw07.SyntaxWalks'. -/
def syntaxWalksUptoCard : Claim7 := { stood := { row := syntaxWalksUptoRow, standIns := [], harness := (true, "fb6f3cea10b2bce7ccd9e68c58951443a6981fe33c0f78952a9ec7f837153f3e"), looks := true }, kinds := [], alts := [], laidByText := true, laidKinds := [.data, .data, .data, .sentinel, .sentinel, .data], laidTests := true, laidLooks := .later }
def SyntaxWalksUptoCardSaid : Prop := Claim7.holds Tryz.pinned (.plain (OpenSpec.upto syntaxWalksSpec)) syntaxWalksUptoCard

/-- THE SECOND FORM's CARD OF 'motleylaw07.SyntaxValid'. -/
def syntaxValidUptoCard : Claim7 := { stood := { row := syntaxValidUptoRow, standIns := [], harness := (true, "fb6f3cea10b2bce7ccd9e68c58951443a6981fe33c0f78952a9ec7f837153f3e"), looks := true }, kinds := [], alts := [], laidByText := true, laidKinds := [.data, .data, .data, .sentinel, .sentinel, .data], laidTests := true, laidLooks := .later }
def SyntaxValidUptoCardSaid : Prop := Claim7.holds Tryz.pinned (.plain (OpenSpec.upto syntaxValidSpec)) syntaxValidUptoCard

/-- THE SECOND FORM's CARD OF 'motleylaw07.SyntaxTrees'. -/
def syntaxTreesUptoCard : Claim7 := { stood := { row := syntaxTreesUptoRow, standIns := [], harness := (true, "fb6f3cea10b2bce7ccd9e68c58951443a6981fe33c0f78952a9ec7f837153f3e"), looks := true }, kinds := [], alts := [], laidByText := true, laidKinds := [.data, .data, .data, .sentinel, .sentinel, .data], laidTests := true, laidLooks := .later }
def SyntaxTreesUptoCardSaid : Prop := Claim7.holds Tryz.pinned (.plain (OpenSpec.upto syntaxTreesSpec)) syntaxTreesUptoCard

/-- THE SECOND FORM's CARD OF 'motleylaw07.SyntaxUniform'. -/
def syntaxUniformUptoCard : Claim7 := { stood := { row := syntaxUniformUptoRow, standIns := [], harness := (true, "fb6f3cea10b2bce7ccd9e68c58951443a6981fe33c0f78952a9ec7f837153f3e"), looks := true }, kinds := [], alts := [], laidByText := true, laidKinds := [.data, .data, .data, .sentinel, .sentinel, .data], laidTests := true, laidLooks := .later }
def SyntaxUniformUptoCardSaid : Prop := Claim7.holds Tryz.pinned (.plain (OpenSpec.upto syntaxUniformSpec)) syntaxUniformUptoCard

/-- THE SECOND FORM's CARD OF 'motleylaw07.SyntaxAsks'. -/
def syntaxAsksUptoCard : Claim7 := { stood := { row := syntaxAsksUptoRow, standIns := [], harness := (true, "fb6f3cea10b2bce7ccd9e68c58951443a6981fe33c0f78952a9ec7f837153f3e"), looks := true }, kinds := [], alts := [], laidByText := true, laidKinds := [.data, .data, .data, .sentinel, .sentinel, .data], laidTests := true, laidLooks := .later }
def SyntaxAsksUptoCardSaid : Prop := Claim7.holds Tryz.pinned (.plain (OpenSpec.upto syntaxAsksSpec)) syntaxAsksUptoCard

/-- THE SECOND FORM's CARD OF 'motleylaw07.SyntaxPrograms'. -/
def syntaxProgramsUptoCard : Claim7 := { stood := { row := syntaxProgramsUptoRow, standIns := [], harness := (true, "fb6f3cea10b2bce7ccd9e68c58951443a6981fe33c0f78952a9ec7f837153f3e"), looks := true }, kinds := [], alts := [], laidByText := true, laidKinds := [.data, .data, .data, .sentinel, .sentinel, .data], laidTests := true, laidLooks := .later }
def SyntaxProgramsUptoCardSaid : Prop := Claim7.holds Tryz.pinned (.plain (OpenSpec.upto syntaxProgramsSpec)) syntaxProgramsUptoCard
end Rows
end Go.Proofs.YtfaclfkpnmcmlaaGreatDoor
