/-
  NARROWER THAN 'FOR EVERY INPUT', by the rows' own cells (each row's printed sentence says how): FnExactAreNuts: laid · FnExactNutsIn: laid · FnExactNutsInPart: laid · FnExactPutNut: laid · FnExactRichestPart: laid · FnExactTurnNuts: laid · FnExactSameNuts: laid · FnExactRowNuts: laid · FnExactColumnNuts: laid · FnExactNutsText: laid · FnExactParseNuts: laid.
  DERIVED. THE GIVEN ROWS OF THIS SEAT. 11 by the template 'for every input the law returns true; each argument reads behind the call as it read before'; 0 by the template 'total and deterministic' (their statements: YthfmfeghipjpdaaDoorTotals.lean).
  GIVEN WITH THE SEED: the statements are not yours to turn. If you find one false, say at which input.
  Laid BY PROGRAM, IN A SANDBOX (cutbox-rows.mjs): the forced cells as the released guide's own fill.sh prints them over the translation 17369ce6671e21d1… (all of the seat's roots in one cut). By AI agents, Wed Nov 11 2026. No macro, syntax, notation, axiom, sorry.
-/
import Derived.Test.YthfmfeghipjpdaaDoorChecked
import GoSem.PinnedTables
import GoSem.Claim
import GoSem.ClaimJoined
import GoSem.ClaimMapViews
import Derived.JoinedTies
import Derived.KernelRfl
namespace Go.Proofs.YthfmfeghipjpdaaDoor
/- THE CELL 'sum', in the pinned program and in every row, IS THE sha256 OF THE DUMP (.gsa) THAT YthfmfeghipjpdaaDoorProg.lean LOADS. Nothing in Lean hashes anything: it is a label: what it is worth is what the hold of that sum in a sandbox is worth. -/
noncomputable def Tryd.pinned : Pinned := { name := "ythfmfeghipjpdaadoor", sum := "17369ce6671e21d16b92c0529cc3b129b1c145259f4c12857b0b90e58ea892bb", checked := Tryd.checked }
namespace Rows
def none {H : Type} : Left H := { results := [], args := [] }

/- WHAT THE LISTED PACKAGE-LEVEL VARIABLES READ AS WHEN THE CALL BEGINS. Each datum BY PROGRAM (the guide's laid-datum.mjs) off the statement by which the dump's own 'gosem.cut.vars' lays the variable. In a bare row this is a premise. The card (YthfmfeghipjpdaaDoorCards.lean) ties it to the program's text. -/
def laid_unicode_utf8_acceptRanges {H : Type} : DataW H := .agg [.agg [.lit (.int .u8 128), .lit (.int .u8 191)], .agg [.lit (.int .u8 160), .lit (.int .u8 191)], .agg [.lit (.int .u8 128), .lit (.int .u8 159)], .agg [.lit (.int .u8 144), .lit (.int .u8 191)], .agg [.lit (.int .u8 128), .lit (.int .u8 143)], .agg [.lit (.int .u8 0), .lit (.int .u8 0)], .agg [.lit (.int .u8 0), .lit (.int .u8 0)], .agg [.lit (.int .u8 0), .lit (.int .u8 0)], .agg [.lit (.int .u8 0), .lit (.int .u8 0)], .agg [.lit (.int .u8 0), .lit (.int .u8 0)], .agg [.lit (.int .u8 0), .lit (.int .u8 0)], .agg [.lit (.int .u8 0), .lit (.int .u8 0)], .agg [.lit (.int .u8 0), .lit (.int .u8 0)], .agg [.lit (.int .u8 0), .lit (.int .u8 0)], .agg [.lit (.int .u8 0), .lit (.int .u8 0)], .agg [.lit (.int .u8 0), .lit (.int .u8 0)]]
/-- One of Go's own tables, pinned by name: the form's constant. -/
def laid_unicode_utf8_first : DataW Unit := Go.Pinned.utf8First

/-- 'laws.FnExactAreNuts': WHATEVER THE INPUT: true; the input reads as it did. -/
def fnExactAreNutsSpec : ChangeSpec := { name := "fnExactAreNuts", fn := fun _ => fun
  | [d] => { results := [.lit (.bool true)], args := [d] }
  | _ => none }
def fnExactAreNutsRow : OpenClaim := { program := "ythfmfeghipjpdaadoor", sum := "17369ce6671e21d16b92c0529cc3b129b1c145259f4c12857b0b90e58ea892bb", func := "loop.example/g01377/laws.FnExactAreNuts", spec := "fnExactAreNuts", inPlace := ["internal/bytealg.IndexByteString", "internal/bytealg.IndexString"], unfollowed := true, recurses := true, named := ["unicode/utf8.first", "unicode/utf8.acceptRanges", "internal/bytealg.MaxLen"], apart := false, laid := [("unicode/utf8.acceptRanges", laid_unicode_utf8_acceptRanges), ("unicode/utf8.first", laid_unicode_utf8_first)] }
def FnExactAreNutsSaid : Prop := fnExactAreNutsRow.holds Tryd.pinned (OpenSpec.ofChange fnExactAreNutsSpec)

/-- ITS FALSE NEIGHBOUR: 'it returns false'. Refute it at one input. -/
def fnExactAreNutsWrong : ChangeSpec := { name := "fnExactAreNuts", fn := fun _ => fun
  | [d] => { results := [.lit (.bool false)], args := [d] }
  | _ => none }
def FnExactAreNutsWrongFalsely : Prop := fnExactAreNutsRow.holds Tryd.pinned (OpenSpec.ofChange fnExactAreNutsWrong)

/-- 'laws.FnExactNutsIn': WHATEVER THE INPUT: true; the input reads as it did. -/
def fnExactNutsInSpec : ChangeSpec := { name := "fnExactNutsIn", fn := fun _ => fun
  | [d] => { results := [.lit (.bool true)], args := [d] }
  | _ => none }
def fnExactNutsInRow : OpenClaim := { program := "ythfmfeghipjpdaadoor", sum := "17369ce6671e21d16b92c0529cc3b129b1c145259f4c12857b0b90e58ea892bb", func := "loop.example/g01377/laws.FnExactNutsIn", spec := "fnExactNutsIn", inPlace := ["internal/bytealg.IndexByteString", "internal/bytealg.IndexString"], unfollowed := true, recurses := true, named := ["unicode/utf8.first", "unicode/utf8.acceptRanges", "internal/bytealg.MaxLen"], apart := false, laid := [("unicode/utf8.acceptRanges", laid_unicode_utf8_acceptRanges), ("unicode/utf8.first", laid_unicode_utf8_first)] }
def FnExactNutsInSaid : Prop := fnExactNutsInRow.holds Tryd.pinned (OpenSpec.ofChange fnExactNutsInSpec)

/-- ITS FALSE NEIGHBOUR: 'it returns false'. Refute it at one input. -/
def fnExactNutsInWrong : ChangeSpec := { name := "fnExactNutsIn", fn := fun _ => fun
  | [d] => { results := [.lit (.bool false)], args := [d] }
  | _ => none }
def FnExactNutsInWrongFalsely : Prop := fnExactNutsInRow.holds Tryd.pinned (OpenSpec.ofChange fnExactNutsInWrong)

/-- 'laws.FnExactNutsInPart': WHATEVER THE INPUT: true; the input reads as it did. -/
def fnExactNutsInPartSpec : ChangeSpec := { name := "fnExactNutsInPart", fn := fun _ => fun
  | [d1, d2, d3, d4] => { results := [.lit (.bool true)], args := [d1, d2, d3, d4] }
  | _ => none }
def fnExactNutsInPartRow : OpenClaim := { program := "ythfmfeghipjpdaadoor", sum := "17369ce6671e21d16b92c0529cc3b129b1c145259f4c12857b0b90e58ea892bb", func := "loop.example/g01377/laws.FnExactNutsInPart", spec := "fnExactNutsInPart", inPlace := ["internal/bytealg.IndexByteString", "internal/bytealg.IndexString"], unfollowed := true, recurses := true, named := ["unicode/utf8.first", "unicode/utf8.acceptRanges", "internal/bytealg.MaxLen"], apart := false, laid := [("unicode/utf8.acceptRanges", laid_unicode_utf8_acceptRanges), ("unicode/utf8.first", laid_unicode_utf8_first)] }
def FnExactNutsInPartSaid : Prop := fnExactNutsInPartRow.holds Tryd.pinned (OpenSpec.ofChange fnExactNutsInPartSpec)

/-- ITS FALSE NEIGHBOUR: 'it returns false'. Refute it at one input. -/
def fnExactNutsInPartWrong : ChangeSpec := { name := "fnExactNutsInPart", fn := fun _ => fun
  | [d1, d2, d3, d4] => { results := [.lit (.bool false)], args := [d1, d2, d3, d4] }
  | _ => none }
def FnExactNutsInPartWrongFalsely : Prop := fnExactNutsInPartRow.holds Tryd.pinned (OpenSpec.ofChange fnExactNutsInPartWrong)

/-- 'laws.FnExactPutNut': WHATEVER THE INPUT: true; the input reads as it did. -/
def fnExactPutNutSpec : ChangeSpec := { name := "fnExactPutNut", fn := fun _ => fun
  | [d1, d2, d3] => { results := [.lit (.bool true)], args := [d1, d2, d3] }
  | _ => none }
def fnExactPutNutRow : OpenClaim := { program := "ythfmfeghipjpdaadoor", sum := "17369ce6671e21d16b92c0529cc3b129b1c145259f4c12857b0b90e58ea892bb", func := "loop.example/g01377/laws.FnExactPutNut", spec := "fnExactPutNut", inPlace := ["internal/bytealg.IndexByteString", "internal/bytealg.IndexString"], unfollowed := true, recurses := true, named := ["unicode/utf8.first", "unicode/utf8.acceptRanges", "internal/bytealg.MaxLen"], apart := false, laid := [("unicode/utf8.acceptRanges", laid_unicode_utf8_acceptRanges), ("unicode/utf8.first", laid_unicode_utf8_first)] }
def FnExactPutNutSaid : Prop := fnExactPutNutRow.holds Tryd.pinned (OpenSpec.ofChange fnExactPutNutSpec)

/-- ITS FALSE NEIGHBOUR: 'it returns false'. Refute it at one input. -/
def fnExactPutNutWrong : ChangeSpec := { name := "fnExactPutNut", fn := fun _ => fun
  | [d1, d2, d3] => { results := [.lit (.bool false)], args := [d1, d2, d3] }
  | _ => none }
def FnExactPutNutWrongFalsely : Prop := fnExactPutNutRow.holds Tryd.pinned (OpenSpec.ofChange fnExactPutNutWrong)

/-- 'laws.FnExactRichestPart': WHATEVER THE INPUT: true; the input reads as it did. -/
def fnExactRichestPartSpec : ChangeSpec := { name := "fnExactRichestPart", fn := fun _ => fun
  | [d1, d2] => { results := [.lit (.bool true)], args := [d1, d2] }
  | _ => none }
def fnExactRichestPartRow : OpenClaim := { program := "ythfmfeghipjpdaadoor", sum := "17369ce6671e21d16b92c0529cc3b129b1c145259f4c12857b0b90e58ea892bb", func := "loop.example/g01377/laws.FnExactRichestPart", spec := "fnExactRichestPart", inPlace := ["internal/bytealg.IndexByteString", "internal/bytealg.IndexString"], unfollowed := true, recurses := true, named := ["unicode/utf8.first", "unicode/utf8.acceptRanges", "internal/bytealg.MaxLen"], apart := false, laid := [("unicode/utf8.acceptRanges", laid_unicode_utf8_acceptRanges), ("unicode/utf8.first", laid_unicode_utf8_first)] }
def FnExactRichestPartSaid : Prop := fnExactRichestPartRow.holds Tryd.pinned (OpenSpec.ofChange fnExactRichestPartSpec)

/-- ITS FALSE NEIGHBOUR: 'it returns false'. Refute it at one input. -/
def fnExactRichestPartWrong : ChangeSpec := { name := "fnExactRichestPart", fn := fun _ => fun
  | [d1, d2] => { results := [.lit (.bool false)], args := [d1, d2] }
  | _ => none }
def FnExactRichestPartWrongFalsely : Prop := fnExactRichestPartRow.holds Tryd.pinned (OpenSpec.ofChange fnExactRichestPartWrong)

/-- 'laws.FnExactTurnNuts': WHATEVER THE INPUT: true; the input reads as it did. -/
def fnExactTurnNutsSpec : ChangeSpec := { name := "fnExactTurnNuts", fn := fun _ => fun
  | [d] => { results := [.lit (.bool true)], args := [d] }
  | _ => none }
def fnExactTurnNutsRow : OpenClaim := { program := "ythfmfeghipjpdaadoor", sum := "17369ce6671e21d16b92c0529cc3b129b1c145259f4c12857b0b90e58ea892bb", func := "loop.example/g01377/laws.FnExactTurnNuts", spec := "fnExactTurnNuts", inPlace := ["internal/bytealg.IndexByteString", "internal/bytealg.IndexString"], unfollowed := true, recurses := true, named := ["unicode/utf8.first", "unicode/utf8.acceptRanges", "internal/bytealg.MaxLen"], apart := false, laid := [("unicode/utf8.acceptRanges", laid_unicode_utf8_acceptRanges), ("unicode/utf8.first", laid_unicode_utf8_first)] }
def FnExactTurnNutsSaid : Prop := fnExactTurnNutsRow.holds Tryd.pinned (OpenSpec.ofChange fnExactTurnNutsSpec)

/-- ITS FALSE NEIGHBOUR: 'it returns false'. Refute it at one input. -/
def fnExactTurnNutsWrong : ChangeSpec := { name := "fnExactTurnNuts", fn := fun _ => fun
  | [d] => { results := [.lit (.bool false)], args := [d] }
  | _ => none }
def FnExactTurnNutsWrongFalsely : Prop := fnExactTurnNutsRow.holds Tryd.pinned (OpenSpec.ofChange fnExactTurnNutsWrong)

/-- 'laws.FnExactSameNuts': WHATEVER THE INPUT: true; the input reads as it did. -/
def fnExactSameNutsSpec : ChangeSpec := { name := "fnExactSameNuts", fn := fun _ => fun
  | [d1, d2] => { results := [.lit (.bool true)], args := [d1, d2] }
  | _ => none }
def fnExactSameNutsRow : OpenClaim := { program := "ythfmfeghipjpdaadoor", sum := "17369ce6671e21d16b92c0529cc3b129b1c145259f4c12857b0b90e58ea892bb", func := "loop.example/g01377/laws.FnExactSameNuts", spec := "fnExactSameNuts", inPlace := ["internal/bytealg.IndexByteString", "internal/bytealg.IndexString"], unfollowed := true, recurses := true, named := ["unicode/utf8.first", "unicode/utf8.acceptRanges", "internal/bytealg.MaxLen"], apart := false, laid := [("unicode/utf8.acceptRanges", laid_unicode_utf8_acceptRanges), ("unicode/utf8.first", laid_unicode_utf8_first)] }
def FnExactSameNutsSaid : Prop := fnExactSameNutsRow.holds Tryd.pinned (OpenSpec.ofChange fnExactSameNutsSpec)

/-- ITS FALSE NEIGHBOUR: 'it returns false'. Refute it at one input. -/
def fnExactSameNutsWrong : ChangeSpec := { name := "fnExactSameNuts", fn := fun _ => fun
  | [d1, d2] => { results := [.lit (.bool false)], args := [d1, d2] }
  | _ => none }
def FnExactSameNutsWrongFalsely : Prop := fnExactSameNutsRow.holds Tryd.pinned (OpenSpec.ofChange fnExactSameNutsWrong)

/-- 'laws.FnExactRowNuts': WHATEVER THE INPUT: true; the input reads as it did. -/
def fnExactRowNutsSpec : ChangeSpec := { name := "fnExactRowNuts", fn := fun _ => fun
  | [d] => { results := [.lit (.bool true)], args := [d] }
  | _ => none }
def fnExactRowNutsRow : OpenClaim := { program := "ythfmfeghipjpdaadoor", sum := "17369ce6671e21d16b92c0529cc3b129b1c145259f4c12857b0b90e58ea892bb", func := "loop.example/g01377/laws.FnExactRowNuts", spec := "fnExactRowNuts", inPlace := ["internal/bytealg.IndexByteString", "internal/bytealg.IndexString"], unfollowed := true, recurses := true, named := ["unicode/utf8.first", "unicode/utf8.acceptRanges", "internal/bytealg.MaxLen"], apart := false, laid := [("unicode/utf8.acceptRanges", laid_unicode_utf8_acceptRanges), ("unicode/utf8.first", laid_unicode_utf8_first)] }
def FnExactRowNutsSaid : Prop := fnExactRowNutsRow.holds Tryd.pinned (OpenSpec.ofChange fnExactRowNutsSpec)

/-- ITS FALSE NEIGHBOUR: 'it returns false'. Refute it at one input. -/
def fnExactRowNutsWrong : ChangeSpec := { name := "fnExactRowNuts", fn := fun _ => fun
  | [d] => { results := [.lit (.bool false)], args := [d] }
  | _ => none }
def FnExactRowNutsWrongFalsely : Prop := fnExactRowNutsRow.holds Tryd.pinned (OpenSpec.ofChange fnExactRowNutsWrong)

/-- 'laws.FnExactColumnNuts': WHATEVER THE INPUT: true; the input reads as it did. -/
def fnExactColumnNutsSpec : ChangeSpec := { name := "fnExactColumnNuts", fn := fun _ => fun
  | [d] => { results := [.lit (.bool true)], args := [d] }
  | _ => none }
def fnExactColumnNutsRow : OpenClaim := { program := "ythfmfeghipjpdaadoor", sum := "17369ce6671e21d16b92c0529cc3b129b1c145259f4c12857b0b90e58ea892bb", func := "loop.example/g01377/laws.FnExactColumnNuts", spec := "fnExactColumnNuts", inPlace := ["internal/bytealg.IndexByteString", "internal/bytealg.IndexString"], unfollowed := true, recurses := true, named := ["unicode/utf8.first", "unicode/utf8.acceptRanges", "internal/bytealg.MaxLen"], apart := false, laid := [("unicode/utf8.acceptRanges", laid_unicode_utf8_acceptRanges), ("unicode/utf8.first", laid_unicode_utf8_first)] }
def FnExactColumnNutsSaid : Prop := fnExactColumnNutsRow.holds Tryd.pinned (OpenSpec.ofChange fnExactColumnNutsSpec)

/-- ITS FALSE NEIGHBOUR: 'it returns false'. Refute it at one input. -/
def fnExactColumnNutsWrong : ChangeSpec := { name := "fnExactColumnNuts", fn := fun _ => fun
  | [d] => { results := [.lit (.bool false)], args := [d] }
  | _ => none }
def FnExactColumnNutsWrongFalsely : Prop := fnExactColumnNutsRow.holds Tryd.pinned (OpenSpec.ofChange fnExactColumnNutsWrong)

/-- 'laws.FnExactNutsText': WHATEVER THE INPUT: true; the input reads as it did. -/
def fnExactNutsTextSpec : ChangeSpec := { name := "fnExactNutsText", fn := fun _ => fun
  | [d] => { results := [.lit (.bool true)], args := [d] }
  | _ => none }
def fnExactNutsTextRow : OpenClaim := { program := "ythfmfeghipjpdaadoor", sum := "17369ce6671e21d16b92c0529cc3b129b1c145259f4c12857b0b90e58ea892bb", func := "loop.example/g01377/laws.FnExactNutsText", spec := "fnExactNutsText", inPlace := ["internal/bytealg.IndexByteString", "internal/bytealg.IndexString", "internal/abi.NoEscape", "internal/bytealg.MakeNoZero"], unfollowed := true, recurses := true, named := ["unicode/utf8.first", "unicode/utf8.acceptRanges", "internal/bytealg.MaxLen"], apart := false, laid := [("unicode/utf8.acceptRanges", laid_unicode_utf8_acceptRanges), ("unicode/utf8.first", laid_unicode_utf8_first)] }
def FnExactNutsTextSaid : Prop := fnExactNutsTextRow.holds Tryd.pinned (OpenSpec.ofChange fnExactNutsTextSpec)

/-- ITS FALSE NEIGHBOUR: 'it returns false'. Refute it at one input. -/
def fnExactNutsTextWrong : ChangeSpec := { name := "fnExactNutsText", fn := fun _ => fun
  | [d] => { results := [.lit (.bool false)], args := [d] }
  | _ => none }
def FnExactNutsTextWrongFalsely : Prop := fnExactNutsTextRow.holds Tryd.pinned (OpenSpec.ofChange fnExactNutsTextWrong)

/-- 'laws.FnExactParseNuts': WHATEVER THE INPUT: true; the input reads as it did. -/
def fnExactParseNutsSpec : ChangeSpec := { name := "fnExactParseNuts", fn := fun _ => fun
  | [d] => { results := [.lit (.bool true)], args := [d] }
  | _ => none }
def fnExactParseNutsRow : OpenClaim := { program := "ythfmfeghipjpdaadoor", sum := "17369ce6671e21d16b92c0529cc3b129b1c145259f4c12857b0b90e58ea892bb", func := "loop.example/g01377/laws.FnExactParseNuts", spec := "fnExactParseNuts", inPlace := ["internal/bytealg.CountString", "internal/bytealg.IndexByteString", "internal/bytealg.IndexString"], unfollowed := true, recurses := true, named := ["unicode/utf8.first", "unicode/utf8.acceptRanges", "internal/bytealg.MaxLen"], apart := false, laid := [("unicode/utf8.acceptRanges", laid_unicode_utf8_acceptRanges), ("unicode/utf8.first", laid_unicode_utf8_first)] }
def FnExactParseNutsSaid : Prop := fnExactParseNutsRow.holds Tryd.pinned (OpenSpec.ofChange fnExactParseNutsSpec)

/-- ITS FALSE NEIGHBOUR: 'it returns false'. Refute it at one input. -/
def fnExactParseNutsWrong : ChangeSpec := { name := "fnExactParseNuts", fn := fun _ => fun
  | [d] => { results := [.lit (.bool false)], args := [d] }
  | _ => none }
def FnExactParseNutsWrongFalsely : Prop := fnExactParseNutsRow.holds Tryd.pinned (OpenSpec.ofChange fnExactParseNutsWrong)

/- THE SECOND FORM. 'bulk': how many values and letters a reading holds, each counted each time it is reached (what is shared counts as often as it is met; a slice's spare places count too). A statement '..UptoSaid' is the law's where the arguments, and the package variables that the reading takes, are together of bulk at most 1048576: NARROWER than '..Said'. Prove '..Said' where nothing that the law and all that it calls make is longer than what came in: it says more and counts as full. Else prove '..UptoSaid'. A law counts once. -/
mutual
def uptoBulk {H : Type} : DataW H → Nat
  | .lit (.string bytes) => bytes.length + 1
  | .lit _ => 1
  | .nil => 1
  | .ptr d => uptoBulk d + 1
  | .slice elems spare => uptoBulkAll elems + uptoBulkAll spare + 1
  | .agg parts => uptoBulkAll parts + 1
  | .iface _ d => uptoBulk d + 1
  | .map entries => uptoBulkEntries entries + 1
  | .held _ => 1
def uptoBulkAll {H : Type} : List (DataW H) → Nat
  | [] => 0
  | d :: r => uptoBulk d + uptoBulkAll r
def uptoBulkEntries {H : Type} : List (Lit × DataW H) → Nat
  | [] => 0
  | x :: r => uptoBulkEntry x + uptoBulkEntries r
def uptoBulkEntry {H : Type} : Lit × DataW H → Nat
  | (.string bytes, d) => bytes.length + uptoBulk d + 1
  | (_, d) => uptoBulk d + 1
 end
def uptoSmall : (H : Type) → List (DataW H) → Bool := fun _ ds => decide (uptoBulkAll ds ≤ 1048576)
def OpenSpec.upto (s : _root_.Go.ChangeSpec) : _root_.Go.OpenSpec := { _root_.Go.OpenSpec.ofChange s with cond := some uptoSmall }

/-- 'laws.FnExactAreNuts', WHERE WHAT IT READS IS OF BULK AT MOST 1048576: true; the input reads as it did. -/
def fnExactAreNutsUptoRow : OpenClaim := { program := "ythfmfeghipjpdaadoor", sum := "17369ce6671e21d16b92c0529cc3b129b1c145259f4c12857b0b90e58ea892bb", func := "loop.example/g01377/laws.FnExactAreNuts", spec := "fnExactAreNuts", inPlace := ["internal/bytealg.IndexByteString", "internal/bytealg.IndexString"], unfollowed := true, recurses := true, named := ["unicode/utf8.first", "unicode/utf8.acceptRanges", "internal/bytealg.MaxLen"], apart := false, laid := [("unicode/utf8.acceptRanges", laid_unicode_utf8_acceptRanges), ("unicode/utf8.first", laid_unicode_utf8_first)], narrowed := true }
def FnExactAreNutsUptoSaid : Prop := fnExactAreNutsUptoRow.holds Tryd.pinned (OpenSpec.upto fnExactAreNutsSpec)

/-- 'laws.FnExactNutsIn', WHERE WHAT IT READS IS OF BULK AT MOST 1048576: true; the input reads as it did. -/
def fnExactNutsInUptoRow : OpenClaim := { program := "ythfmfeghipjpdaadoor", sum := "17369ce6671e21d16b92c0529cc3b129b1c145259f4c12857b0b90e58ea892bb", func := "loop.example/g01377/laws.FnExactNutsIn", spec := "fnExactNutsIn", inPlace := ["internal/bytealg.IndexByteString", "internal/bytealg.IndexString"], unfollowed := true, recurses := true, named := ["unicode/utf8.first", "unicode/utf8.acceptRanges", "internal/bytealg.MaxLen"], apart := false, laid := [("unicode/utf8.acceptRanges", laid_unicode_utf8_acceptRanges), ("unicode/utf8.first", laid_unicode_utf8_first)], narrowed := true }
def FnExactNutsInUptoSaid : Prop := fnExactNutsInUptoRow.holds Tryd.pinned (OpenSpec.upto fnExactNutsInSpec)

/-- 'laws.FnExactNutsInPart', WHERE WHAT IT READS IS OF BULK AT MOST 1048576: true; the input reads as it did. -/
def fnExactNutsInPartUptoRow : OpenClaim := { program := "ythfmfeghipjpdaadoor", sum := "17369ce6671e21d16b92c0529cc3b129b1c145259f4c12857b0b90e58ea892bb", func := "loop.example/g01377/laws.FnExactNutsInPart", spec := "fnExactNutsInPart", inPlace := ["internal/bytealg.IndexByteString", "internal/bytealg.IndexString"], unfollowed := true, recurses := true, named := ["unicode/utf8.first", "unicode/utf8.acceptRanges", "internal/bytealg.MaxLen"], apart := false, laid := [("unicode/utf8.acceptRanges", laid_unicode_utf8_acceptRanges), ("unicode/utf8.first", laid_unicode_utf8_first)], narrowed := true }
def FnExactNutsInPartUptoSaid : Prop := fnExactNutsInPartUptoRow.holds Tryd.pinned (OpenSpec.upto fnExactNutsInPartSpec)

/-- 'laws.FnExactPutNut', WHERE WHAT IT READS IS OF BULK AT MOST 1048576: true; the input reads as it did. -/
def fnExactPutNutUptoRow : OpenClaim := { program := "ythfmfeghipjpdaadoor", sum := "17369ce6671e21d16b92c0529cc3b129b1c145259f4c12857b0b90e58ea892bb", func := "loop.example/g01377/laws.FnExactPutNut", spec := "fnExactPutNut", inPlace := ["internal/bytealg.IndexByteString", "internal/bytealg.IndexString"], unfollowed := true, recurses := true, named := ["unicode/utf8.first", "unicode/utf8.acceptRanges", "internal/bytealg.MaxLen"], apart := false, laid := [("unicode/utf8.acceptRanges", laid_unicode_utf8_acceptRanges), ("unicode/utf8.first", laid_unicode_utf8_first)], narrowed := true }
def FnExactPutNutUptoSaid : Prop := fnExactPutNutUptoRow.holds Tryd.pinned (OpenSpec.upto fnExactPutNutSpec)

/-- 'laws.FnExactRichestPart', WHERE WHAT IT READS IS OF BULK AT MOST 1048576: true; the input reads as it did. -/
def fnExactRichestPartUptoRow : OpenClaim := { program := "ythfmfeghipjpdaadoor", sum := "17369ce6671e21d16b92c0529cc3b129b1c145259f4c12857b0b90e58ea892bb", func := "loop.example/g01377/laws.FnExactRichestPart", spec := "fnExactRichestPart", inPlace := ["internal/bytealg.IndexByteString", "internal/bytealg.IndexString"], unfollowed := true, recurses := true, named := ["unicode/utf8.first", "unicode/utf8.acceptRanges", "internal/bytealg.MaxLen"], apart := false, laid := [("unicode/utf8.acceptRanges", laid_unicode_utf8_acceptRanges), ("unicode/utf8.first", laid_unicode_utf8_first)], narrowed := true }
def FnExactRichestPartUptoSaid : Prop := fnExactRichestPartUptoRow.holds Tryd.pinned (OpenSpec.upto fnExactRichestPartSpec)

/-- 'laws.FnExactTurnNuts', WHERE WHAT IT READS IS OF BULK AT MOST 1048576: true; the input reads as it did. -/
def fnExactTurnNutsUptoRow : OpenClaim := { program := "ythfmfeghipjpdaadoor", sum := "17369ce6671e21d16b92c0529cc3b129b1c145259f4c12857b0b90e58ea892bb", func := "loop.example/g01377/laws.FnExactTurnNuts", spec := "fnExactTurnNuts", inPlace := ["internal/bytealg.IndexByteString", "internal/bytealg.IndexString"], unfollowed := true, recurses := true, named := ["unicode/utf8.first", "unicode/utf8.acceptRanges", "internal/bytealg.MaxLen"], apart := false, laid := [("unicode/utf8.acceptRanges", laid_unicode_utf8_acceptRanges), ("unicode/utf8.first", laid_unicode_utf8_first)], narrowed := true }
def FnExactTurnNutsUptoSaid : Prop := fnExactTurnNutsUptoRow.holds Tryd.pinned (OpenSpec.upto fnExactTurnNutsSpec)

/-- 'laws.FnExactSameNuts', WHERE WHAT IT READS IS OF BULK AT MOST 1048576: true; the input reads as it did. -/
def fnExactSameNutsUptoRow : OpenClaim := { program := "ythfmfeghipjpdaadoor", sum := "17369ce6671e21d16b92c0529cc3b129b1c145259f4c12857b0b90e58ea892bb", func := "loop.example/g01377/laws.FnExactSameNuts", spec := "fnExactSameNuts", inPlace := ["internal/bytealg.IndexByteString", "internal/bytealg.IndexString"], unfollowed := true, recurses := true, named := ["unicode/utf8.first", "unicode/utf8.acceptRanges", "internal/bytealg.MaxLen"], apart := false, laid := [("unicode/utf8.acceptRanges", laid_unicode_utf8_acceptRanges), ("unicode/utf8.first", laid_unicode_utf8_first)], narrowed := true }
def FnExactSameNutsUptoSaid : Prop := fnExactSameNutsUptoRow.holds Tryd.pinned (OpenSpec.upto fnExactSameNutsSpec)

/-- 'laws.FnExactRowNuts', WHERE WHAT IT READS IS OF BULK AT MOST 1048576: true; the input reads as it did. -/
def fnExactRowNutsUptoRow : OpenClaim := { program := "ythfmfeghipjpdaadoor", sum := "17369ce6671e21d16b92c0529cc3b129b1c145259f4c12857b0b90e58ea892bb", func := "loop.example/g01377/laws.FnExactRowNuts", spec := "fnExactRowNuts", inPlace := ["internal/bytealg.IndexByteString", "internal/bytealg.IndexString"], unfollowed := true, recurses := true, named := ["unicode/utf8.first", "unicode/utf8.acceptRanges", "internal/bytealg.MaxLen"], apart := false, laid := [("unicode/utf8.acceptRanges", laid_unicode_utf8_acceptRanges), ("unicode/utf8.first", laid_unicode_utf8_first)], narrowed := true }
def FnExactRowNutsUptoSaid : Prop := fnExactRowNutsUptoRow.holds Tryd.pinned (OpenSpec.upto fnExactRowNutsSpec)

/-- 'laws.FnExactColumnNuts', WHERE WHAT IT READS IS OF BULK AT MOST 1048576: true; the input reads as it did. -/
def fnExactColumnNutsUptoRow : OpenClaim := { program := "ythfmfeghipjpdaadoor", sum := "17369ce6671e21d16b92c0529cc3b129b1c145259f4c12857b0b90e58ea892bb", func := "loop.example/g01377/laws.FnExactColumnNuts", spec := "fnExactColumnNuts", inPlace := ["internal/bytealg.IndexByteString", "internal/bytealg.IndexString"], unfollowed := true, recurses := true, named := ["unicode/utf8.first", "unicode/utf8.acceptRanges", "internal/bytealg.MaxLen"], apart := false, laid := [("unicode/utf8.acceptRanges", laid_unicode_utf8_acceptRanges), ("unicode/utf8.first", laid_unicode_utf8_first)], narrowed := true }
def FnExactColumnNutsUptoSaid : Prop := fnExactColumnNutsUptoRow.holds Tryd.pinned (OpenSpec.upto fnExactColumnNutsSpec)

/-- 'laws.FnExactNutsText', WHERE WHAT IT READS IS OF BULK AT MOST 1048576: true; the input reads as it did. -/
def fnExactNutsTextUptoRow : OpenClaim := { program := "ythfmfeghipjpdaadoor", sum := "17369ce6671e21d16b92c0529cc3b129b1c145259f4c12857b0b90e58ea892bb", func := "loop.example/g01377/laws.FnExactNutsText", spec := "fnExactNutsText", inPlace := ["internal/bytealg.IndexByteString", "internal/bytealg.IndexString", "internal/abi.NoEscape", "internal/bytealg.MakeNoZero"], unfollowed := true, recurses := true, named := ["unicode/utf8.first", "unicode/utf8.acceptRanges", "internal/bytealg.MaxLen"], apart := false, laid := [("unicode/utf8.acceptRanges", laid_unicode_utf8_acceptRanges), ("unicode/utf8.first", laid_unicode_utf8_first)], narrowed := true }
def FnExactNutsTextUptoSaid : Prop := fnExactNutsTextUptoRow.holds Tryd.pinned (OpenSpec.upto fnExactNutsTextSpec)

/-- 'laws.FnExactParseNuts', WHERE WHAT IT READS IS OF BULK AT MOST 1048576: true; the input reads as it did. -/
def fnExactParseNutsUptoRow : OpenClaim := { program := "ythfmfeghipjpdaadoor", sum := "17369ce6671e21d16b92c0529cc3b129b1c145259f4c12857b0b90e58ea892bb", func := "loop.example/g01377/laws.FnExactParseNuts", spec := "fnExactParseNuts", inPlace := ["internal/bytealg.CountString", "internal/bytealg.IndexByteString", "internal/bytealg.IndexString"], unfollowed := true, recurses := true, named := ["unicode/utf8.first", "unicode/utf8.acceptRanges", "internal/bytealg.MaxLen"], apart := false, laid := [("unicode/utf8.acceptRanges", laid_unicode_utf8_acceptRanges), ("unicode/utf8.first", laid_unicode_utf8_first)], narrowed := true }
def FnExactParseNutsUptoSaid : Prop := fnExactParseNutsUptoRow.holds Tryd.pinned (OpenSpec.upto fnExactParseNutsSpec)

end Rows
end Go.Proofs.YthfmfeghipjpdaaDoor
