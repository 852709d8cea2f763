/-
  NARROWER THAN 'FOR EVERY INPUT', by the rows' own cells (each row's printed sentence says how): SyntaxPlain: laid · SyntaxFamily: laid · SyntaxShared: laid · SyntaxExpression: laid · SyntaxProjects: laid · SyntaxFirst: laid · SyntaxWithin: laid · SyntaxWalks: loops, laid · SyntaxValid: laid · SyntaxTrees: loops, laid · SyntaxUniform: laid · SyntaxAsks: loops, laid · SyntaxPrograms: laid.
  DERIVED. THE GIVEN ROWS OF THIS SEAT. 13 by the template 'for every input the law returns true; each argument reads behind the call as it read before'; 0 by the template 'total and deterministic' (their statements: YtfaclfkpnmcmlaaGreatDoorTotals.lean).
  GIVEN WITH THE SEED: the statements are not yours to turn. If you find one false, say at which input.
  Laid BY PROGRAM, IN A SANDBOX (cutbox-rows.mjs): the forced cells as the released guide's own fill.sh prints them over the translation d47fdbfc403ff060… (all of the seat's roots in one cut). By AI agents, Wed Nov 11 2026. No macro, syntax, notation, axiom, sorry.
-/
import Derived.Test.YtfaclfkpnmcmlaaGreatDoorChecked
import GoSem.Claim
import GoSem.ClaimJoined
import GoSem.ClaimMapViews
import Derived.JoinedTies
import Derived.KernelRfl
namespace Go.Proofs.YtfaclfkpnmcmlaaGreatDoor
/- THE CELL 'sum', in the pinned program and in every row, IS THE sha256 OF THE DUMP (.gsa) THAT YtfaclfkpnmcmlaaGreatDoorProg.lean LOADS. Nothing in Lean hashes anything: it is a label: what it is worth is what the hold of that sum in a sandbox is worth. -/
noncomputable def Tryz.pinned : Pinned := { name := "ytfaclfkpnmcmlaagreatdoor", sum := "d47fdbfc403ff06052480be50234d181b78bde3bff7811ec2ff93d15f2b9d62c", checked := Tryz.checked }
namespace Rows
def none {H : Type} : Left H := { results := [], args := [] }

/- WHAT THE LISTED PACKAGE-LEVEL VARIABLES READ AS WHEN THE CALL BEGINS. Each datum BY PROGRAM (the guide's laid-datum.mjs) off the statement by which the dump's own 'gosem.cut.vars' lays the variable. In a bare row this is a premise. The card (YtfaclfkpnmcmlaaGreatDoorCards.lean) ties it to the program's text. -/
def laid_math_bits_deBruijn32tab {H : Type} : DataW H := .agg [.lit (.int .u8 0), .lit (.int .u8 1), .lit (.int .u8 28), .lit (.int .u8 2), .lit (.int .u8 29), .lit (.int .u8 14), .lit (.int .u8 24), .lit (.int .u8 3), .lit (.int .u8 30), .lit (.int .u8 22), .lit (.int .u8 20), .lit (.int .u8 15), .lit (.int .u8 25), .lit (.int .u8 17), .lit (.int .u8 4), .lit (.int .u8 8), .lit (.int .u8 31), .lit (.int .u8 27), .lit (.int .u8 13), .lit (.int .u8 23), .lit (.int .u8 21), .lit (.int .u8 19), .lit (.int .u8 16), .lit (.int .u8 7), .lit (.int .u8 26), .lit (.int .u8 12), .lit (.int .u8 18), .lit (.int .u8 6), .lit (.int .u8 11), .lit (.int .u8 5), .lit (.int .u8 10), .lit (.int .u8 9)]
def laid_math_bits_deBruijn64tab {H : Type} : DataW H := .agg [.lit (.int .u8 0), .lit (.int .u8 1), .lit (.int .u8 56), .lit (.int .u8 2), .lit (.int .u8 57), .lit (.int .u8 49), .lit (.int .u8 28), .lit (.int .u8 3), .lit (.int .u8 61), .lit (.int .u8 58), .lit (.int .u8 42), .lit (.int .u8 50), .lit (.int .u8 38), .lit (.int .u8 29), .lit (.int .u8 17), .lit (.int .u8 4), .lit (.int .u8 62), .lit (.int .u8 47), .lit (.int .u8 59), .lit (.int .u8 36), .lit (.int .u8 45), .lit (.int .u8 43), .lit (.int .u8 51), .lit (.int .u8 22), .lit (.int .u8 53), .lit (.int .u8 39), .lit (.int .u8 33), .lit (.int .u8 30), .lit (.int .u8 24), .lit (.int .u8 18), .lit (.int .u8 12), .lit (.int .u8 5), .lit (.int .u8 63), .lit (.int .u8 55), .lit (.int .u8 48), .lit (.int .u8 27), .lit (.int .u8 60), .lit (.int .u8 41), .lit (.int .u8 37), .lit (.int .u8 16), .lit (.int .u8 46), .lit (.int .u8 35), .lit (.int .u8 44), .lit (.int .u8 21), .lit (.int .u8 52), .lit (.int .u8 32), .lit (.int .u8 23), .lit (.int .u8 11), .lit (.int .u8 54), .lit (.int .u8 26), .lit (.int .u8 40), .lit (.int .u8 15), .lit (.int .u8 34), .lit (.int .u8 20), .lit (.int .u8 31), .lit (.int .u8 10), .lit (.int .u8 25), .lit (.int .u8 14), .lit (.int .u8 19), .lit (.int .u8 9), .lit (.int .u8 13), .lit (.int .u8 8), .lit (.int .u8 7), .lit (.int .u8 6)]
def laid_internal_strconv_uint64pow10 {H : Type} : DataW H := .agg [.lit (.int .u64 1), .lit (.int .u64 10), .lit (.int .u64 100), .lit (.int .u64 1000), .lit (.int .u64 10000), .lit (.int .u64 100000), .lit (.int .u64 1000000), .lit (.int .u64 10000000), .lit (.int .u64 100000000), .lit (.int .u64 1000000000), .lit (.int .u64 10000000000), .lit (.int .u64 100000000000), .lit (.int .u64 1000000000000), .lit (.int .u64 10000000000000), .lit (.int .u64 100000000000000), .lit (.int .u64 1000000000000000), .lit (.int .u64 10000000000000000), .lit (.int .u64 100000000000000000), .lit (.int .u64 1000000000000000000), .lit (.int .u64 10000000000000000000)]
def laid_strconv_ErrRange {H : Type} : DataW H := .iface "*errors.errorString" (.ptr (.agg [.lit (.string [118, 97, 108, 117, 101, 32, 111, 117, 116, 32, 111, 102, 32, 114, 97, 110, 103, 101])]))
def laid_strconv_ErrSyntax {H : Type} : DataW H := .iface "*errors.errorString" (.ptr (.agg [.lit (.string [105, 110, 118, 97, 108, 105, 100, 32, 115, 121, 110, 116, 97, 120])]))
def laid_motley_source_signs {H : Type} : DataW H := .agg [.lit (.string [60, 61]), .lit (.string [62, 61]), .lit (.string [61, 61]), .lit (.string [33, 61]), .lit (.string [38, 38]), .lit (.string [124, 124]), .lit (.string [43]), .lit (.string [45]), .lit (.string [42]), .lit (.string [47]), .lit (.string [37]), .lit (.string [60]), .lit (.string [62]), .lit (.string [61]), .lit (.string [33]), .lit (.string [40]), .lit (.string [41]), .lit (.string [123]), .lit (.string [125]), .lit (.string [44]), .lit (.string [59]), .lit (.string [58])]

/-- 'motleylaw07.SyntaxPlain': WHATEVER THE INPUT: true; the input reads as it did. -/
def syntaxPlainSpec : ChangeSpec := { name := "syntaxPlain", fn := fun _ => fun
  | [d1, d2] => { results := [.lit (.bool true)], args := [d1, d2] }
  | _ => none }
def syntaxPlainRow : OpenClaim := { program := "ytfaclfkpnmcmlaagreatdoor", sum := "d47fdbfc403ff06052480be50234d181b78bde3bff7811ec2ff93d15f2b9d62c", func := "motley/motleylaw07.SyntaxPlain", spec := "syntaxPlain", inPlace := ["slices.overlaps[motley/syntax.state]"], unfollowed := true, recurses := true, named := ["strconv.ErrSyntax", "strconv.ErrRange", "internal/strconv.uint64pow10", "math/bits.deBruijn32tab", "math/bits.deBruijn64tab", "motley/source.signs"], plainKeys := false, apart := false, laid := [("math/bits.deBruijn32tab", laid_math_bits_deBruijn32tab), ("math/bits.deBruijn64tab", laid_math_bits_deBruijn64tab), ("internal/strconv.uint64pow10", laid_internal_strconv_uint64pow10), ("strconv.ErrRange", laid_strconv_ErrRange), ("strconv.ErrSyntax", laid_strconv_ErrSyntax), ("motley/source.signs", laid_motley_source_signs)] }
def SyntaxPlainSaid : Prop := syntaxPlainRow.holds Tryz.pinned (OpenSpec.ofChange syntaxPlainSpec)

/-- ITS FALSE NEIGHBOUR: 'it returns false'. Refute it at one input. -/
def syntaxPlainWrong : ChangeSpec := { name := "syntaxPlain", fn := fun _ => fun
  | [d1, d2] => { results := [.lit (.bool false)], args := [d1, d2] }
  | _ => none }
def SyntaxPlainWrongFalsely : Prop := syntaxPlainRow.holds Tryz.pinned (OpenSpec.ofChange syntaxPlainWrong)

/-- 'motleylaw07.SyntaxFamily': WHATEVER THE INPUT: true; the input reads as it did. -/
def syntaxFamilySpec : ChangeSpec := { name := "syntaxFamily", fn := fun _ => fun
  | [d1, d2] => { results := [.lit (.bool true)], args := [d1, d2] }
  | _ => none }
def syntaxFamilyRow : OpenClaim := { program := "ytfaclfkpnmcmlaagreatdoor", sum := "d47fdbfc403ff06052480be50234d181b78bde3bff7811ec2ff93d15f2b9d62c", func := "motley/motleylaw07.SyntaxFamily", spec := "syntaxFamily", inPlace := ["slices.overlaps[motley/syntax.state]"], unfollowed := true, recurses := true, named := ["strconv.ErrSyntax", "strconv.ErrRange", "internal/strconv.uint64pow10", "math/bits.deBruijn32tab", "math/bits.deBruijn64tab", "motley/source.signs"], plainKeys := false, apart := false, laid := [("math/bits.deBruijn32tab", laid_math_bits_deBruijn32tab), ("math/bits.deBruijn64tab", laid_math_bits_deBruijn64tab), ("internal/strconv.uint64pow10", laid_internal_strconv_uint64pow10), ("strconv.ErrRange", laid_strconv_ErrRange), ("strconv.ErrSyntax", laid_strconv_ErrSyntax), ("motley/source.signs", laid_motley_source_signs)] }
def SyntaxFamilySaid : Prop := syntaxFamilyRow.holds Tryz.pinned (OpenSpec.ofChange syntaxFamilySpec)

/-- ITS FALSE NEIGHBOUR: 'it returns false'. Refute it at one input. -/
def syntaxFamilyWrong : ChangeSpec := { name := "syntaxFamily", fn := fun _ => fun
  | [d1, d2] => { results := [.lit (.bool false)], args := [d1, d2] }
  | _ => none }
def SyntaxFamilyWrongFalsely : Prop := syntaxFamilyRow.holds Tryz.pinned (OpenSpec.ofChange syntaxFamilyWrong)

/-- 'motleylaw07.SyntaxShared': WHATEVER THE INPUT: true; the input reads as it did. -/
def syntaxSharedSpec : ChangeSpec := { name := "syntaxShared", fn := fun _ => fun
  | [d] => { results := [.lit (.bool true)], args := [d] }
  | _ => none }
def syntaxSharedRow : OpenClaim := { program := "ytfaclfkpnmcmlaagreatdoor", sum := "d47fdbfc403ff06052480be50234d181b78bde3bff7811ec2ff93d15f2b9d62c", func := "motley/motleylaw07.SyntaxShared", spec := "syntaxShared", inPlace := ["slices.overlaps[motley/syntax.state]"], unfollowed := true, recurses := true, named := ["strconv.ErrSyntax", "strconv.ErrRange", "internal/strconv.uint64pow10", "math/bits.deBruijn32tab", "math/bits.deBruijn64tab", "motley/source.signs"], plainKeys := false, apart := false, laid := [("math/bits.deBruijn32tab", laid_math_bits_deBruijn32tab), ("math/bits.deBruijn64tab", laid_math_bits_deBruijn64tab), ("internal/strconv.uint64pow10", laid_internal_strconv_uint64pow10), ("strconv.ErrRange", laid_strconv_ErrRange), ("strconv.ErrSyntax", laid_strconv_ErrSyntax), ("motley/source.signs", laid_motley_source_signs)] }
def SyntaxSharedSaid : Prop := syntaxSharedRow.holds Tryz.pinned (OpenSpec.ofChange syntaxSharedSpec)

/-- ITS FALSE NEIGHBOUR: 'it returns false'. Refute it at one input. -/
def syntaxSharedWrong : ChangeSpec := { name := "syntaxShared", fn := fun _ => fun
  | [d] => { results := [.lit (.bool false)], args := [d] }
  | _ => none }
def SyntaxSharedWrongFalsely : Prop := syntaxSharedRow.holds Tryz.pinned (OpenSpec.ofChange syntaxSharedWrong)

/-- 'motleylaw07.SyntaxExpression': WHATEVER THE INPUT: true; the input reads as it did. -/
def syntaxExpressionSpec : ChangeSpec := { name := "syntaxExpression", fn := fun _ => fun
  | [d] => { results := [.lit (.bool true)], args := [d] }
  | _ => none }
def syntaxExpressionRow : OpenClaim := { program := "ytfaclfkpnmcmlaagreatdoor", sum := "d47fdbfc403ff06052480be50234d181b78bde3bff7811ec2ff93d15f2b9d62c", func := "motley/motleylaw07.SyntaxExpression", spec := "syntaxExpression", inPlace := ["slices.overlaps[motley/syntax.state]"], unfollowed := true, recurses := true, named := ["strconv.ErrSyntax", "strconv.ErrRange", "internal/strconv.uint64pow10", "math/bits.deBruijn32tab", "math/bits.deBruijn64tab", "motley/source.signs"], plainKeys := false, apart := false, laid := [("math/bits.deBruijn32tab", laid_math_bits_deBruijn32tab), ("math/bits.deBruijn64tab", laid_math_bits_deBruijn64tab), ("internal/strconv.uint64pow10", laid_internal_strconv_uint64pow10), ("strconv.ErrRange", laid_strconv_ErrRange), ("strconv.ErrSyntax", laid_strconv_ErrSyntax), ("motley/source.signs", laid_motley_source_signs)] }
def SyntaxExpressionSaid : Prop := syntaxExpressionRow.holds Tryz.pinned (OpenSpec.ofChange syntaxExpressionSpec)

/-- ITS FALSE NEIGHBOUR: 'it returns false'. Refute it at one input. -/
def syntaxExpressionWrong : ChangeSpec := { name := "syntaxExpression", fn := fun _ => fun
  | [d] => { results := [.lit (.bool false)], args := [d] }
  | _ => none }
def SyntaxExpressionWrongFalsely : Prop := syntaxExpressionRow.holds Tryz.pinned (OpenSpec.ofChange syntaxExpressionWrong)

/-- 'motleylaw07.SyntaxProjects': WHATEVER THE INPUT: true; the input reads as it did. -/
def syntaxProjectsSpec : ChangeSpec := { name := "syntaxProjects", fn := fun _ => fun
  | [d1, d2, d3] => { results := [.lit (.bool true)], args := [d1, d2, d3] }
  | _ => none }
def syntaxProjectsRow : OpenClaim := { program := "ytfaclfkpnmcmlaagreatdoor", sum := "d47fdbfc403ff06052480be50234d181b78bde3bff7811ec2ff93d15f2b9d62c", func := "motley/motleylaw07.SyntaxProjects", spec := "syntaxProjects", inPlace := ["slices.overlaps[motley/syntax.state]"], unfollowed := true, recurses := true, named := ["strconv.ErrSyntax", "strconv.ErrRange", "internal/strconv.uint64pow10", "math/bits.deBruijn32tab", "math/bits.deBruijn64tab", "motley/source.signs"], plainKeys := false, apart := false, laid := [("math/bits.deBruijn32tab", laid_math_bits_deBruijn32tab), ("math/bits.deBruijn64tab", laid_math_bits_deBruijn64tab), ("internal/strconv.uint64pow10", laid_internal_strconv_uint64pow10), ("strconv.ErrRange", laid_strconv_ErrRange), ("strconv.ErrSyntax", laid_strconv_ErrSyntax), ("motley/source.signs", laid_motley_source_signs)] }
def SyntaxProjectsSaid : Prop := syntaxProjectsRow.holds Tryz.pinned (OpenSpec.ofChange syntaxProjectsSpec)

/-- ITS FALSE NEIGHBOUR: 'it returns false'. Refute it at one input. -/
def syntaxProjectsWrong : ChangeSpec := { name := "syntaxProjects", fn := fun _ => fun
  | [d1, d2, d3] => { results := [.lit (.bool false)], args := [d1, d2, d3] }
  | _ => none }
def SyntaxProjectsWrongFalsely : Prop := syntaxProjectsRow.holds Tryz.pinned (OpenSpec.ofChange syntaxProjectsWrong)

/-- 'motleylaw07.SyntaxFirst': WHATEVER THE INPUT: true; the input reads as it did. -/
def syntaxFirstSpec : ChangeSpec := { name := "syntaxFirst", fn := fun _ => fun
  | [d1, d2, d3] => { results := [.lit (.bool true)], args := [d1, d2, d3] }
  | _ => none }
def syntaxFirstRow : OpenClaim := { program := "ytfaclfkpnmcmlaagreatdoor", sum := "d47fdbfc403ff06052480be50234d181b78bde3bff7811ec2ff93d15f2b9d62c", func := "motley/motleylaw07.SyntaxFirst", spec := "syntaxFirst", inPlace := ["slices.overlaps[motley/syntax.state]"], unfollowed := true, recurses := true, named := ["strconv.ErrSyntax", "strconv.ErrRange", "internal/strconv.uint64pow10", "math/bits.deBruijn32tab", "math/bits.deBruijn64tab", "motley/source.signs"], plainKeys := false, apart := false, laid := [("math/bits.deBruijn32tab", laid_math_bits_deBruijn32tab), ("math/bits.deBruijn64tab", laid_math_bits_deBruijn64tab), ("internal/strconv.uint64pow10", laid_internal_strconv_uint64pow10), ("strconv.ErrRange", laid_strconv_ErrRange), ("strconv.ErrSyntax", laid_strconv_ErrSyntax), ("motley/source.signs", laid_motley_source_signs)] }
def SyntaxFirstSaid : Prop := syntaxFirstRow.holds Tryz.pinned (OpenSpec.ofChange syntaxFirstSpec)

/-- ITS FALSE NEIGHBOUR: 'it returns false'. Refute it at one input. -/
def syntaxFirstWrong : ChangeSpec := { name := "syntaxFirst", fn := fun _ => fun
  | [d1, d2, d3] => { results := [.lit (.bool false)], args := [d1, d2, d3] }
  | _ => none }
def SyntaxFirstWrongFalsely : Prop := syntaxFirstRow.holds Tryz.pinned (OpenSpec.ofChange syntaxFirstWrong)

/-- 'motleylaw07.SyntaxWithin': WHATEVER THE INPUT: true; the input reads as it did. -/
def syntaxWithinSpec : ChangeSpec := { name := "syntaxWithin", fn := fun _ => fun
  | [d1, d2, d3] => { results := [.lit (.bool true)], args := [d1, d2, d3] }
  | _ => none }
def syntaxWithinRow : OpenClaim := { program := "ytfaclfkpnmcmlaagreatdoor", sum := "d47fdbfc403ff06052480be50234d181b78bde3bff7811ec2ff93d15f2b9d62c", func := "motley/motleylaw07.SyntaxWithin", spec := "syntaxWithin", inPlace := ["slices.overlaps[motley/syntax.state]"], unfollowed := true, recurses := true, named := ["strconv.ErrSyntax", "strconv.ErrRange", "internal/strconv.uint64pow10", "math/bits.deBruijn32tab", "math/bits.deBruijn64tab", "motley/source.signs"], plainKeys := false, apart := false, laid := [("math/bits.deBruijn32tab", laid_math_bits_deBruijn32tab), ("math/bits.deBruijn64tab", laid_math_bits_deBruijn64tab), ("internal/strconv.uint64pow10", laid_internal_strconv_uint64pow10), ("strconv.ErrRange", laid_strconv_ErrRange), ("strconv.ErrSyntax", laid_strconv_ErrSyntax), ("motley/source.signs", laid_motley_source_signs)] }
def SyntaxWithinSaid : Prop := syntaxWithinRow.holds Tryz.pinned (OpenSpec.ofChange syntaxWithinSpec)

/-- ITS FALSE NEIGHBOUR: 'it returns false'. Refute it at one input. -/
def syntaxWithinWrong : ChangeSpec := { name := "syntaxWithin", fn := fun _ => fun
  | [d1, d2, d3] => { results := [.lit (.bool false)], args := [d1, d2, d3] }
  | _ => none }
def SyntaxWithinWrongFalsely : Prop := syntaxWithinRow.holds Tryz.pinned (OpenSpec.ofChange syntaxWithinWrong)

/-- 'motleylaw07.SyntaxWalks': WHATEVER THE INPUT: true; the input reads as it did. -/
def syntaxWalksSpec : ChangeSpec := { name := "syntaxWalks", fn := fun _ => fun
  | [d1, d2, d3] => { results := [.lit (.bool true)], args := [d1, d2, d3] }
  | _ => none }
def syntaxWalksRow : OpenClaim := { program := "ytfaclfkpnmcmlaagreatdoor", sum := "d47fdbfc403ff06052480be50234d181b78bde3bff7811ec2ff93d15f2b9d62c", func := "motley/motleylaw07.SyntaxWalks", spec := "syntaxWalks", inPlace := ["slices.overlaps[motley/syntax.state]"], unfollowed := true, recurses := true, named := ["strconv.ErrSyntax", "strconv.ErrRange", "internal/strconv.uint64pow10", "math/bits.deBruijn32tab", "math/bits.deBruijn64tab", "motley/source.signs"], loops := true, plainKeys := false, apart := false, laid := [("math/bits.deBruijn32tab", laid_math_bits_deBruijn32tab), ("math/bits.deBruijn64tab", laid_math_bits_deBruijn64tab), ("internal/strconv.uint64pow10", laid_internal_strconv_uint64pow10), ("strconv.ErrRange", laid_strconv_ErrRange), ("strconv.ErrSyntax", laid_strconv_ErrSyntax), ("motley/source.signs", laid_motley_source_signs)] }
def SyntaxWalksSaid : Prop := syntaxWalksRow.holds Tryz.pinned (OpenSpec.ofChange syntaxWalksSpec)

/-- ITS FALSE NEIGHBOUR: 'it returns false'. Refute it at one input. -/
def syntaxWalksWrong : ChangeSpec := { name := "syntaxWalks", fn := fun _ => fun
  | [d1, d2, d3] => { results := [.lit (.bool false)], args := [d1, d2, d3] }
  | _ => none }
def SyntaxWalksWrongFalsely : Prop := syntaxWalksRow.holds Tryz.pinned (OpenSpec.ofChange syntaxWalksWrong)

/-- 'motleylaw07.SyntaxValid': WHATEVER THE INPUT: true; the input reads as it did. -/
def syntaxValidSpec : ChangeSpec := { name := "syntaxValid", fn := fun _ => fun
  | [d1, d2] => { results := [.lit (.bool true)], args := [d1, d2] }
  | _ => none }
def syntaxValidRow : OpenClaim := { program := "ytfaclfkpnmcmlaagreatdoor", sum := "d47fdbfc403ff06052480be50234d181b78bde3bff7811ec2ff93d15f2b9d62c", func := "motley/motleylaw07.SyntaxValid", spec := "syntaxValid", inPlace := ["slices.overlaps[motley/syntax.state]"], unfollowed := true, recurses := true, named := ["strconv.ErrSyntax", "strconv.ErrRange", "internal/strconv.uint64pow10", "math/bits.deBruijn32tab", "math/bits.deBruijn64tab", "motley/source.signs"], plainKeys := false, apart := false, laid := [("math/bits.deBruijn32tab", laid_math_bits_deBruijn32tab), ("math/bits.deBruijn64tab", laid_math_bits_deBruijn64tab), ("internal/strconv.uint64pow10", laid_internal_strconv_uint64pow10), ("strconv.ErrRange", laid_strconv_ErrRange), ("strconv.ErrSyntax", laid_strconv_ErrSyntax), ("motley/source.signs", laid_motley_source_signs)] }
def SyntaxValidSaid : Prop := syntaxValidRow.holds Tryz.pinned (OpenSpec.ofChange syntaxValidSpec)

/-- ITS FALSE NEIGHBOUR: 'it returns false'. Refute it at one input. -/
def syntaxValidWrong : ChangeSpec := { name := "syntaxValid", fn := fun _ => fun
  | [d1, d2] => { results := [.lit (.bool false)], args := [d1, d2] }
  | _ => none }
def SyntaxValidWrongFalsely : Prop := syntaxValidRow.holds Tryz.pinned (OpenSpec.ofChange syntaxValidWrong)

/-- 'motleylaw07.SyntaxTrees': WHATEVER THE INPUT: true; the input reads as it did. -/
def syntaxTreesSpec : ChangeSpec := { name := "syntaxTrees", fn := fun _ => fun
  | [d1, d2, d3] => { results := [.lit (.bool true)], args := [d1, d2, d3] }
  | _ => none }
def syntaxTreesRow : OpenClaim := { program := "ytfaclfkpnmcmlaagreatdoor", sum := "d47fdbfc403ff06052480be50234d181b78bde3bff7811ec2ff93d15f2b9d62c", func := "motley/motleylaw07.SyntaxTrees", spec := "syntaxTrees", inPlace := ["slices.overlaps[motley/syntax.state]"], unfollowed := true, recurses := true, named := ["strconv.ErrSyntax", "strconv.ErrRange", "internal/strconv.uint64pow10", "math/bits.deBruijn32tab", "math/bits.deBruijn64tab", "motley/source.signs"], loops := true, plainKeys := false, apart := false, laid := [("math/bits.deBruijn32tab", laid_math_bits_deBruijn32tab), ("math/bits.deBruijn64tab", laid_math_bits_deBruijn64tab), ("internal/strconv.uint64pow10", laid_internal_strconv_uint64pow10), ("strconv.ErrRange", laid_strconv_ErrRange), ("strconv.ErrSyntax", laid_strconv_ErrSyntax), ("motley/source.signs", laid_motley_source_signs)] }
def SyntaxTreesSaid : Prop := syntaxTreesRow.holds Tryz.pinned (OpenSpec.ofChange syntaxTreesSpec)

/-- ITS FALSE NEIGHBOUR: 'it returns false'. Refute it at one input. -/
def syntaxTreesWrong : ChangeSpec := { name := "syntaxTrees", fn := fun _ => fun
  | [d1, d2, d3] => { results := [.lit (.bool false)], args := [d1, d2, d3] }
  | _ => none }
def SyntaxTreesWrongFalsely : Prop := syntaxTreesRow.holds Tryz.pinned (OpenSpec.ofChange syntaxTreesWrong)

/-- 'motleylaw07.SyntaxUniform': WHATEVER THE INPUT: true; the input reads as it did. -/
def syntaxUniformSpec : ChangeSpec := { name := "syntaxUniform", fn := fun _ => fun
  | [d1, d2, d3, d4] => { results := [.lit (.bool true)], args := [d1, d2, d3, d4] }
  | _ => none }
def syntaxUniformRow : OpenClaim := { program := "ytfaclfkpnmcmlaagreatdoor", sum := "d47fdbfc403ff06052480be50234d181b78bde3bff7811ec2ff93d15f2b9d62c", func := "motley/motleylaw07.SyntaxUniform", spec := "syntaxUniform", inPlace := ["slices.overlaps[motley/syntax.state]"], unfollowed := true, recurses := true, named := ["strconv.ErrSyntax", "strconv.ErrRange", "internal/strconv.uint64pow10", "math/bits.deBruijn32tab", "math/bits.deBruijn64tab", "motley/source.signs"], plainKeys := false, apart := false, laid := [("math/bits.deBruijn32tab", laid_math_bits_deBruijn32tab), ("math/bits.deBruijn64tab", laid_math_bits_deBruijn64tab), ("internal/strconv.uint64pow10", laid_internal_strconv_uint64pow10), ("strconv.ErrRange", laid_strconv_ErrRange), ("strconv.ErrSyntax", laid_strconv_ErrSyntax), ("motley/source.signs", laid_motley_source_signs)] }
def SyntaxUniformSaid : Prop := syntaxUniformRow.holds Tryz.pinned (OpenSpec.ofChange syntaxUniformSpec)

/-- ITS FALSE NEIGHBOUR: 'it returns false'. Refute it at one input. -/
def syntaxUniformWrong : ChangeSpec := { name := "syntaxUniform", fn := fun _ => fun
  | [d1, d2, d3, d4] => { results := [.lit (.bool false)], args := [d1, d2, d3, d4] }
  | _ => none }
def SyntaxUniformWrongFalsely : Prop := syntaxUniformRow.holds Tryz.pinned (OpenSpec.ofChange syntaxUniformWrong)

/-- 'motleylaw07.SyntaxAsks': WHATEVER THE INPUT: true; the input reads as it did. -/
def syntaxAsksSpec : ChangeSpec := { name := "syntaxAsks", fn := fun _ => fun
  | [d1, d2, d3, d4] => { results := [.lit (.bool true)], args := [d1, d2, d3, d4] }
  | _ => none }
def syntaxAsksRow : OpenClaim := { program := "ytfaclfkpnmcmlaagreatdoor", sum := "d47fdbfc403ff06052480be50234d181b78bde3bff7811ec2ff93d15f2b9d62c", func := "motley/motleylaw07.SyntaxAsks", spec := "syntaxAsks", inPlace := ["slices.overlaps[motley/syntax.state]", "internal/abi.NoEscape"], unfollowed := true, recurses := true, named := ["strconv.ErrSyntax", "strconv.ErrRange", "internal/strconv.uint64pow10", "math/bits.deBruijn32tab", "math/bits.deBruijn64tab", "motley/source.signs"], loops := true, plainKeys := false, apart := false, laid := [("math/bits.deBruijn32tab", laid_math_bits_deBruijn32tab), ("math/bits.deBruijn64tab", laid_math_bits_deBruijn64tab), ("internal/strconv.uint64pow10", laid_internal_strconv_uint64pow10), ("strconv.ErrRange", laid_strconv_ErrRange), ("strconv.ErrSyntax", laid_strconv_ErrSyntax), ("motley/source.signs", laid_motley_source_signs)] }
def SyntaxAsksSaid : Prop := syntaxAsksRow.holds Tryz.pinned (OpenSpec.ofChange syntaxAsksSpec)

/-- ITS FALSE NEIGHBOUR: 'it returns false'. Refute it at one input. -/
def syntaxAsksWrong : ChangeSpec := { name := "syntaxAsks", fn := fun _ => fun
  | [d1, d2, d3, d4] => { results := [.lit (.bool false)], args := [d1, d2, d3, d4] }
  | _ => none }
def SyntaxAsksWrongFalsely : Prop := syntaxAsksRow.holds Tryz.pinned (OpenSpec.ofChange syntaxAsksWrong)

/-- 'motleylaw07.SyntaxPrograms': WHATEVER THE INPUT: true; the input reads as it did. -/
def syntaxProgramsSpec : ChangeSpec := { name := "syntaxPrograms", fn := fun _ => fun
  | [d1, d2, d3, d4] => { results := [.lit (.bool true)], args := [d1, d2, d3, d4] }
  | _ => none }
def syntaxProgramsRow : OpenClaim := { program := "ytfaclfkpnmcmlaagreatdoor", sum := "d47fdbfc403ff06052480be50234d181b78bde3bff7811ec2ff93d15f2b9d62c", func := "motley/motleylaw07.SyntaxPrograms", spec := "syntaxPrograms", inPlace := ["slices.overlaps[motley/syntax.state]", "internal/abi.NoEscape"], unfollowed := true, recurses := true, named := ["strconv.ErrSyntax", "strconv.ErrRange", "internal/strconv.uint64pow10", "math/bits.deBruijn32tab", "math/bits.deBruijn64tab", "motley/source.signs"], plainKeys := false, apart := false, laid := [("math/bits.deBruijn32tab", laid_math_bits_deBruijn32tab), ("math/bits.deBruijn64tab", laid_math_bits_deBruijn64tab), ("internal/strconv.uint64pow10", laid_internal_strconv_uint64pow10), ("strconv.ErrRange", laid_strconv_ErrRange), ("strconv.ErrSyntax", laid_strconv_ErrSyntax), ("motley/source.signs", laid_motley_source_signs)] }
def SyntaxProgramsSaid : Prop := syntaxProgramsRow.holds Tryz.pinned (OpenSpec.ofChange syntaxProgramsSpec)

/-- ITS FALSE NEIGHBOUR: 'it returns false'. Refute it at one input. -/
def syntaxProgramsWrong : ChangeSpec := { name := "syntaxPrograms", fn := fun _ => fun
  | [d1, d2, d3, d4] => { results := [.lit (.bool false)], args := [d1, d2, d3, d4] }
  | _ => none }
def SyntaxProgramsWrongFalsely : Prop := syntaxProgramsRow.holds Tryz.pinned (OpenSpec.ofChange syntaxProgramsWrong)

/- THE SECOND FORM. 'bulk': how many values and letters a reading holds, each counted each time it is reached (what is shared counts as often as it is met; a slice's spare places count too). A statement '..UptoSaid' is the law's where the arguments, and the package variables that the reading takes, are together of bulk at most 1048576: NARROWER than '..Said'. Prove '..Said' where nothing that the law and all that it calls make is longer than what came in: it says more and counts as full. Else prove '..UptoSaid'. A law counts once. -/
mutual
def uptoBulk {H : Type} : DataW H → Nat
  | .lit (.string bytes) => bytes.length + 1
  | .lit _ => 1
  | .nil => 1
  | .ptr d => uptoBulk d + 1
  | .slice elems spare => uptoBulkAll elems + uptoBulkAll spare + 1
  | .agg parts => uptoBulkAll parts + 1
  | .iface _ d => uptoBulk d + 1
  | .map entries => uptoBulkEntries entries + 1
  | .held _ => 1
def uptoBulkAll {H : Type} : List (DataW H) → Nat
  | [] => 0
  | d :: r => uptoBulk d + uptoBulkAll r
def uptoBulkEntries {H : Type} : List (Lit × DataW H) → Nat
  | [] => 0
  | x :: r => uptoBulkEntry x + uptoBulkEntries r
def uptoBulkEntry {H : Type} : Lit × DataW H → Nat
  | (.string bytes, d) => bytes.length + uptoBulk d + 1
  | (_, d) => uptoBulk d + 1
 end
def uptoSmall : (H : Type) → List (DataW H) → Bool := fun _ ds => decide (uptoBulkAll ds ≤ 1048576)
def OpenSpec.upto (s : _root_.Go.ChangeSpec) : _root_.Go.OpenSpec := { _root_.Go.OpenSpec.ofChange s with cond := some uptoSmall }

/-- 'motleylaw07.SyntaxPlain', WHERE WHAT IT READS IS OF BULK AT MOST 1048576: true; the input reads as it did. -/
def syntaxPlainUptoRow : OpenClaim := { program := "ytfaclfkpnmcmlaagreatdoor", sum := "d47fdbfc403ff06052480be50234d181b78bde3bff7811ec2ff93d15f2b9d62c", func := "motley/motleylaw07.SyntaxPlain", spec := "syntaxPlain", inPlace := ["slices.overlaps[motley/syntax.state]"], unfollowed := true, recurses := true, named := ["strconv.ErrSyntax", "strconv.ErrRange", "internal/strconv.uint64pow10", "math/bits.deBruijn32tab", "math/bits.deBruijn64tab", "motley/source.signs"], plainKeys := false, apart := false, laid := [("math/bits.deBruijn32tab", laid_math_bits_deBruijn32tab), ("math/bits.deBruijn64tab", laid_math_bits_deBruijn64tab), ("internal/strconv.uint64pow10", laid_internal_strconv_uint64pow10), ("strconv.ErrRange", laid_strconv_ErrRange), ("strconv.ErrSyntax", laid_strconv_ErrSyntax), ("motley/source.signs", laid_motley_source_signs)], narrowed := true }
def SyntaxPlainUptoSaid : Prop := syntaxPlainUptoRow.holds Tryz.pinned (OpenSpec.upto syntaxPlainSpec)

/-- 'motleylaw07.SyntaxFamily', WHERE WHAT IT READS IS OF BULK AT MOST 1048576: true; the input reads as it did. -/
def syntaxFamilyUptoRow : OpenClaim := { program := "ytfaclfkpnmcmlaagreatdoor", sum := "d47fdbfc403ff06052480be50234d181b78bde3bff7811ec2ff93d15f2b9d62c", func := "motley/motleylaw07.SyntaxFamily", spec := "syntaxFamily", inPlace := ["slices.overlaps[motley/syntax.state]"], unfollowed := true, recurses := true, named := ["strconv.ErrSyntax", "strconv.ErrRange", "internal/strconv.uint64pow10", "math/bits.deBruijn32tab", "math/bits.deBruijn64tab", "motley/source.signs"], plainKeys := false, apart := false, laid := [("math/bits.deBruijn32tab", laid_math_bits_deBruijn32tab), ("math/bits.deBruijn64tab", laid_math_bits_deBruijn64tab), ("internal/strconv.uint64pow10", laid_internal_strconv_uint64pow10), ("strconv.ErrRange", laid_strconv_ErrRange), ("strconv.ErrSyntax", laid_strconv_ErrSyntax), ("motley/source.signs", laid_motley_source_signs)], narrowed := true }
def SyntaxFamilyUptoSaid : Prop := syntaxFamilyUptoRow.holds Tryz.pinned (OpenSpec.upto syntaxFamilySpec)

/-- 'motleylaw07.SyntaxShared', WHERE WHAT IT READS IS OF BULK AT MOST 1048576: true; the input reads as it did. -/
def syntaxSharedUptoRow : OpenClaim := { program := "ytfaclfkpnmcmlaagreatdoor", sum := "d47fdbfc403ff06052480be50234d181b78bde3bff7811ec2ff93d15f2b9d62c", func := "motley/motleylaw07.SyntaxShared", spec := "syntaxShared", inPlace := ["slices.overlaps[motley/syntax.state]"], unfollowed := true, recurses := true, named := ["strconv.ErrSyntax", "strconv.ErrRange", "internal/strconv.uint64pow10", "math/bits.deBruijn32tab", "math/bits.deBruijn64tab", "motley/source.signs"], plainKeys := false, apart := false, laid := [("math/bits.deBruijn32tab", laid_math_bits_deBruijn32tab), ("math/bits.deBruijn64tab", laid_math_bits_deBruijn64tab), ("internal/strconv.uint64pow10", laid_internal_strconv_uint64pow10), ("strconv.ErrRange", laid_strconv_ErrRange), ("strconv.ErrSyntax", laid_strconv_ErrSyntax), ("motley/source.signs", laid_motley_source_signs)], narrowed := true }
def SyntaxSharedUptoSaid : Prop := syntaxSharedUptoRow.holds Tryz.pinned (OpenSpec.upto syntaxSharedSpec)

/-- 'motleylaw07.SyntaxExpression', WHERE WHAT IT READS IS OF BULK AT MOST 1048576: true; the input reads as it did. -/
def syntaxExpressionUptoRow : OpenClaim := { program := "ytfaclfkpnmcmlaagreatdoor", sum := "d47fdbfc403ff06052480be50234d181b78bde3bff7811ec2ff93d15f2b9d62c", func := "motley/motleylaw07.SyntaxExpression", spec := "syntaxExpression", inPlace := ["slices.overlaps[motley/syntax.state]"], unfollowed := true, recurses := true, named := ["strconv.ErrSyntax", "strconv.ErrRange", "internal/strconv.uint64pow10", "math/bits.deBruijn32tab", "math/bits.deBruijn64tab", "motley/source.signs"], plainKeys := false, apart := false, laid := [("math/bits.deBruijn32tab", laid_math_bits_deBruijn32tab), ("math/bits.deBruijn64tab", laid_math_bits_deBruijn64tab), ("internal/strconv.uint64pow10", laid_internal_strconv_uint64pow10), ("strconv.ErrRange", laid_strconv_ErrRange), ("strconv.ErrSyntax", laid_strconv_ErrSyntax), ("motley/source.signs", laid_motley_source_signs)], narrowed := true }
def SyntaxExpressionUptoSaid : Prop := syntaxExpressionUptoRow.holds Tryz.pinned (OpenSpec.upto syntaxExpressionSpec)

/-- 'motleylaw07.SyntaxProjects', WHERE WHAT IT READS IS OF BULK AT MOST 1048576: true; the input reads as it did. -/
def syntaxProjectsUptoRow : OpenClaim := { program := "ytfaclfkpnmcmlaagreatdoor", sum := "d47fdbfc403ff06052480be50234d181b78bde3bff7811ec2ff93d15f2b9d62c", func := "motley/motleylaw07.SyntaxProjects", spec := "syntaxProjects", inPlace := ["slices.overlaps[motley/syntax.state]"], unfollowed := true, recurses := true, named := ["strconv.ErrSyntax", "strconv.ErrRange", "internal/strconv.uint64pow10", "math/bits.deBruijn32tab", "math/bits.deBruijn64tab", "motley/source.signs"], plainKeys := false, apart := false, laid := [("math/bits.deBruijn32tab", laid_math_bits_deBruijn32tab), ("math/bits.deBruijn64tab", laid_math_bits_deBruijn64tab), ("internal/strconv.uint64pow10", laid_internal_strconv_uint64pow10), ("strconv.ErrRange", laid_strconv_ErrRange), ("strconv.ErrSyntax", laid_strconv_ErrSyntax), ("motley/source.signs", laid_motley_source_signs)], narrowed := true }
def SyntaxProjectsUptoSaid : Prop := syntaxProjectsUptoRow.holds Tryz.pinned (OpenSpec.upto syntaxProjectsSpec)

/-- 'motleylaw07.SyntaxFirst', WHERE WHAT IT READS IS OF BULK AT MOST 1048576: true; the input reads as it did. -/
def syntaxFirstUptoRow : OpenClaim := { program := "ytfaclfkpnmcmlaagreatdoor", sum := "d47fdbfc403ff06052480be50234d181b78bde3bff7811ec2ff93d15f2b9d62c", func := "motley/motleylaw07.SyntaxFirst", spec := "syntaxFirst", inPlace := ["slices.overlaps[motley/syntax.state]"], unfollowed := true, recurses := true, named := ["strconv.ErrSyntax", "strconv.ErrRange", "internal/strconv.uint64pow10", "math/bits.deBruijn32tab", "math/bits.deBruijn64tab", "motley/source.signs"], plainKeys := false, apart := false, laid := [("math/bits.deBruijn32tab", laid_math_bits_deBruijn32tab), ("math/bits.deBruijn64tab", laid_math_bits_deBruijn64tab), ("internal/strconv.uint64pow10", laid_internal_strconv_uint64pow10), ("strconv.ErrRange", laid_strconv_ErrRange), ("strconv.ErrSyntax", laid_strconv_ErrSyntax), ("motley/source.signs", laid_motley_source_signs)], narrowed := true }
def SyntaxFirstUptoSaid : Prop := syntaxFirstUptoRow.holds Tryz.pinned (OpenSpec.upto syntaxFirstSpec)

/-- 'motleylaw07.SyntaxWithin', WHERE WHAT IT READS IS OF BULK AT MOST 1048576: true; the input reads as it did. -/
def syntaxWithinUptoRow : OpenClaim := { program := "ytfaclfkpnmcmlaagreatdoor", sum := "d47fdbfc403ff06052480be50234d181b78bde3bff7811ec2ff93d15f2b9d62c", func := "motley/motleylaw07.SyntaxWithin", spec := "syntaxWithin", inPlace := ["slices.overlaps[motley/syntax.state]"], unfollowed := true, recurses := true, named := ["strconv.ErrSyntax", "strconv.ErrRange", "internal/strconv.uint64pow10", "math/bits.deBruijn32tab", "math/bits.deBruijn64tab", "motley/source.signs"], plainKeys := false, apart := false, laid := [("math/bits.deBruijn32tab", laid_math_bits_deBruijn32tab), ("math/bits.deBruijn64tab", laid_math_bits_deBruijn64tab), ("internal/strconv.uint64pow10", laid_internal_strconv_uint64pow10), ("strconv.ErrRange", laid_strconv_ErrRange), ("strconv.ErrSyntax", laid_strconv_ErrSyntax), ("motley/source.signs", laid_motley_source_signs)], narrowed := true }
def SyntaxWithinUptoSaid : Prop := syntaxWithinUptoRow.holds Tryz.pinned (OpenSpec.upto syntaxWithinSpec)

/-- 'motleylaw07.SyntaxWalks', WHERE WHAT IT READS IS OF BULK AT MOST 1048576: true; the input reads as it did. -/
def syntaxWalksUptoRow : OpenClaim := { program := "ytfaclfkpnmcmlaagreatdoor", sum := "d47fdbfc403ff06052480be50234d181b78bde3bff7811ec2ff93d15f2b9d62c", func := "motley/motleylaw07.SyntaxWalks", spec := "syntaxWalks", inPlace := ["slices.overlaps[motley/syntax.state]"], unfollowed := true, recurses := true, named := ["strconv.ErrSyntax", "strconv.ErrRange", "internal/strconv.uint64pow10", "math/bits.deBruijn32tab", "math/bits.deBruijn64tab", "motley/source.signs"], loops := true, plainKeys := false, apart := false, laid := [("math/bits.deBruijn32tab", laid_math_bits_deBruijn32tab), ("math/bits.deBruijn64tab", laid_math_bits_deBruijn64tab), ("internal/strconv.uint64pow10", laid_internal_strconv_uint64pow10), ("strconv.ErrRange", laid_strconv_ErrRange), ("strconv.ErrSyntax", laid_strconv_ErrSyntax), ("motley/source.signs", laid_motley_source_signs)], narrowed := true }
def SyntaxWalksUptoSaid : Prop := syntaxWalksUptoRow.holds Tryz.pinned (OpenSpec.upto syntaxWalksSpec)

/-- 'motleylaw07.SyntaxValid', WHERE WHAT IT READS IS OF BULK AT MOST 1048576: true; the input reads as it did. -/
def syntaxValidUptoRow : OpenClaim := { program := "ytfaclfkpnmcmlaagreatdoor", sum := "d47fdbfc403ff06052480be50234d181b78bde3bff7811ec2ff93d15f2b9d62c", func := "motley/motleylaw07.SyntaxValid", spec := "syntaxValid", inPlace := ["slices.overlaps[motley/syntax.state]"], unfollowed := true, recurses := true, named := ["strconv.ErrSyntax", "strconv.ErrRange", "internal/strconv.uint64pow10", "math/bits.deBruijn32tab", "math/bits.deBruijn64tab", "motley/source.signs"], plainKeys := false, apart := false, laid := [("math/bits.deBruijn32tab", laid_math_bits_deBruijn32tab), ("math/bits.deBruijn64tab", laid_math_bits_deBruijn64tab), ("internal/strconv.uint64pow10", laid_internal_strconv_uint64pow10), ("strconv.ErrRange", laid_strconv_ErrRange), ("strconv.ErrSyntax", laid_strconv_ErrSyntax), ("motley/source.signs", laid_motley_source_signs)], narrowed := true }
def SyntaxValidUptoSaid : Prop := syntaxValidUptoRow.holds Tryz.pinned (OpenSpec.upto syntaxValidSpec)

/-- 'motleylaw07.SyntaxTrees', WHERE WHAT IT READS IS OF BULK AT MOST 1048576: true; the input reads as it did. -/
def syntaxTreesUptoRow : OpenClaim := { program := "ytfaclfkpnmcmlaagreatdoor", sum := "d47fdbfc403ff06052480be50234d181b78bde3bff7811ec2ff93d15f2b9d62c", func := "motley/motleylaw07.SyntaxTrees", spec := "syntaxTrees", inPlace := ["slices.overlaps[motley/syntax.state]"], unfollowed := true, recurses := true, named := ["strconv.ErrSyntax", "strconv.ErrRange", "internal/strconv.uint64pow10", "math/bits.deBruijn32tab", "math/bits.deBruijn64tab", "motley/source.signs"], loops := true, plainKeys := false, apart := false, laid := [("math/bits.deBruijn32tab", laid_math_bits_deBruijn32tab), ("math/bits.deBruijn64tab", laid_math_bits_deBruijn64tab), ("internal/strconv.uint64pow10", laid_internal_strconv_uint64pow10), ("strconv.ErrRange", laid_strconv_ErrRange), ("strconv.ErrSyntax", laid_strconv_ErrSyntax), ("motley/source.signs", laid_motley_source_signs)], narrowed := true }
def SyntaxTreesUptoSaid : Prop := syntaxTreesUptoRow.holds Tryz.pinned (OpenSpec.upto syntaxTreesSpec)

/-- 'motleylaw07.SyntaxUniform', WHERE WHAT IT READS IS OF BULK AT MOST 1048576: true; the input reads as it did. -/
def syntaxUniformUptoRow : OpenClaim := { program := "ytfaclfkpnmcmlaagreatdoor", sum := "d47fdbfc403ff06052480be50234d181b78bde3bff7811ec2ff93d15f2b9d62c", func := "motley/motleylaw07.SyntaxUniform", spec := "syntaxUniform", inPlace := ["slices.overlaps[motley/syntax.state]"], unfollowed := true, recurses := true, named := ["strconv.ErrSyntax", "strconv.ErrRange", "internal/strconv.uint64pow10", "math/bits.deBruijn32tab", "math/bits.deBruijn64tab", "motley/source.signs"], plainKeys := false, apart := false, laid := [("math/bits.deBruijn32tab", laid_math_bits_deBruijn32tab), ("math/bits.deBruijn64tab", laid_math_bits_deBruijn64tab), ("internal/strconv.uint64pow10", laid_internal_strconv_uint64pow10), ("strconv.ErrRange", laid_strconv_ErrRange), ("strconv.ErrSyntax", laid_strconv_ErrSyntax), ("motley/source.signs", laid_motley_source_signs)], narrowed := true }
def SyntaxUniformUptoSaid : Prop := syntaxUniformUptoRow.holds Tryz.pinned (OpenSpec.upto syntaxUniformSpec)

/-- 'motleylaw07.SyntaxAsks', WHERE WHAT IT READS IS OF BULK AT MOST 1048576: true; the input reads as it did. -/
def syntaxAsksUptoRow : OpenClaim := { program := "ytfaclfkpnmcmlaagreatdoor", sum := "d47fdbfc403ff06052480be50234d181b78bde3bff7811ec2ff93d15f2b9d62c", func := "motley/motleylaw07.SyntaxAsks", spec := "syntaxAsks", inPlace := ["slices.overlaps[motley/syntax.state]", "internal/abi.NoEscape"], unfollowed := true, recurses := true, named := ["strconv.ErrSyntax", "strconv.ErrRange", "internal/strconv.uint64pow10", "math/bits.deBruijn32tab", "math/bits.deBruijn64tab", "motley/source.signs"], loops := true, plainKeys := false, apart := false, laid := [("math/bits.deBruijn32tab", laid_math_bits_deBruijn32tab), ("math/bits.deBruijn64tab", laid_math_bits_deBruijn64tab), ("internal/strconv.uint64pow10", laid_internal_strconv_uint64pow10), ("strconv.ErrRange", laid_strconv_ErrRange), ("strconv.ErrSyntax", laid_strconv_ErrSyntax), ("motley/source.signs", laid_motley_source_signs)], narrowed := true }
def SyntaxAsksUptoSaid : Prop := syntaxAsksUptoRow.holds Tryz.pinned (OpenSpec.upto syntaxAsksSpec)

/-- 'motleylaw07.SyntaxPrograms', WHERE WHAT IT READS IS OF BULK AT MOST 1048576: true; the input reads as it did. -/
def syntaxProgramsUptoRow : OpenClaim := { program := "ytfaclfkpnmcmlaagreatdoor", sum := "d47fdbfc403ff06052480be50234d181b78bde3bff7811ec2ff93d15f2b9d62c", func := "motley/motleylaw07.SyntaxPrograms", spec := "syntaxPrograms", inPlace := ["slices.overlaps[motley/syntax.state]", "internal/abi.NoEscape"], unfollowed := true, recurses := true, named := ["strconv.ErrSyntax", "strconv.ErrRange", "internal/strconv.uint64pow10", "math/bits.deBruijn32tab", "math/bits.deBruijn64tab", "motley/source.signs"], plainKeys := false, apart := false, laid := [("math/bits.deBruijn32tab", laid_math_bits_deBruijn32tab), ("math/bits.deBruijn64tab", laid_math_bits_deBruijn64tab), ("internal/strconv.uint64pow10", laid_internal_strconv_uint64pow10), ("strconv.ErrRange", laid_strconv_ErrRange), ("strconv.ErrSyntax", laid_strconv_ErrSyntax), ("motley/source.signs", laid_motley_source_signs)], narrowed := true }
def SyntaxProgramsUptoSaid : Prop := syntaxProgramsUptoRow.holds Tryz.pinned (OpenSpec.upto syntaxProgramsSpec)

end Rows
end Go.Proofs.YtfaclfkpnmcmlaaGreatDoor
