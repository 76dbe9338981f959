/-
  NARROWER THAN 'FOR EVERY INPUT', by the rows' own cells (each row's printed sentence says how): FnExactCountParts: laid · FnExactGreatestPart: laid · FnExactEvenBreak: laid · FnExactEqualBreaks: laid · FnExactPoorestStrip: laid · FnExactFirstStrips: laid · FnExactPoorestPiece: laid · FnExactFewestPieces: laid.
  DERIVED. THE GIVEN ROWS OF THIS SEAT. 8 by the template 'for every input the law returns true; each argument reads behind the call as it read before'; 0 by the template 'total and deterministic' (their statements: YtedpdfmaccoinaaDoorTotals.lean).
  GIVEN WITH THE SEED: the statements are not yours to turn. If you find one false, say at which input.
  Laid BY PROGRAM, IN A SANDBOX (cutbox-rows.mjs): the forced cells as the released guide's own fill.sh prints them over the translation aa0d2bc013b85985… (all of the seat's roots in one cut). By AI agents, Wed Nov 11 2026. No macro, syntax, notation, axiom, sorry.
-/
import Derived.Test.YtedpdfmaccoinaaDoorChecked
import GoSem.PinnedTables
import GoSem.Claim
import GoSem.ClaimJoined
import GoSem.ClaimMapViews
import Derived.JoinedTies
import Derived.KernelRfl
namespace Go.Proofs.YtedpdfmaccoinaaDoor
/- THE CELL 'sum', in the pinned program and in every row, IS THE sha256 OF THE DUMP (.gsa) THAT YtedpdfmaccoinaaDoorProg.lean LOADS. Nothing in Lean hashes anything: it is a label: what it is worth is what the hold of that sum in a sandbox is worth. -/
noncomputable def Tryd.pinned : Pinned := { name := "ytedpdfmaccoinaadoor", sum := "aa0d2bc013b85985597e7188e8b0f6389627bf46e1abf391b9b3527fc784072b", checked := Tryd.checked }
namespace Rows
def none {H : Type} : Left H := { results := [], args := [] }

/- WHAT THE LISTED PACKAGE-LEVEL VARIABLES READ AS WHEN THE CALL BEGINS. Each datum BY PROGRAM (the guide's laid-datum.mjs) off the statement by which the dump's own 'gosem.cut.vars' lays the variable. In a bare row this is a premise. The card (YtedpdfmaccoinaaDoorCards.lean) ties it to the program's text. -/
def laid_unicode_utf8_acceptRanges {H : Type} : DataW H := .agg [.agg [.lit (.int .u8 128), .lit (.int .u8 191)], .agg [.lit (.int .u8 160), .lit (.int .u8 191)], .agg [.lit (.int .u8 128), .lit (.int .u8 159)], .agg [.lit (.int .u8 144), .lit (.int .u8 191)], .agg [.lit (.int .u8 128), .lit (.int .u8 143)], .agg [.lit (.int .u8 0), .lit (.int .u8 0)], .agg [.lit (.int .u8 0), .lit (.int .u8 0)], .agg [.lit (.int .u8 0), .lit (.int .u8 0)], .agg [.lit (.int .u8 0), .lit (.int .u8 0)], .agg [.lit (.int .u8 0), .lit (.int .u8 0)], .agg [.lit (.int .u8 0), .lit (.int .u8 0)], .agg [.lit (.int .u8 0), .lit (.int .u8 0)], .agg [.lit (.int .u8 0), .lit (.int .u8 0)], .agg [.lit (.int .u8 0), .lit (.int .u8 0)], .agg [.lit (.int .u8 0), .lit (.int .u8 0)], .agg [.lit (.int .u8 0), .lit (.int .u8 0)]]
/-- One of Go's own tables, pinned by name: the form's constant. -/
def laid_unicode_utf8_first : DataW Unit := Go.Pinned.utf8First

/-- 'laws.FnExactCountParts': WHATEVER THE INPUT: true; the input reads as it did. -/
def fnExactCountPartsSpec : ChangeSpec := { name := "fnExactCountParts", fn := fun _ => fun
  | [d1, d2] => { results := [.lit (.bool true)], args := [d1, d2] }
  | _ => none }
def fnExactCountPartsRow : OpenClaim := { program := "ytedpdfmaccoinaadoor", sum := "aa0d2bc013b85985597e7188e8b0f6389627bf46e1abf391b9b3527fc784072b", func := "loop.example/g01377/laws.FnExactCountParts", spec := "fnExactCountParts", inPlace := ["internal/bytealg.IndexByteString", "internal/bytealg.IndexString"], unfollowed := true, recurses := true, named := ["unicode/utf8.first", "unicode/utf8.acceptRanges", "internal/bytealg.MaxLen"], plainKeys := false, apart := false, laid := [("unicode/utf8.acceptRanges", laid_unicode_utf8_acceptRanges), ("unicode/utf8.first", laid_unicode_utf8_first)] }
def FnExactCountPartsSaid : Prop := fnExactCountPartsRow.holds Tryd.pinned (OpenSpec.ofChange fnExactCountPartsSpec)

/-- ITS FALSE NEIGHBOUR: 'it returns false'. Refute it at one input. -/
def fnExactCountPartsWrong : ChangeSpec := { name := "fnExactCountParts", fn := fun _ => fun
  | [d1, d2] => { results := [.lit (.bool false)], args := [d1, d2] }
  | _ => none }
def FnExactCountPartsWrongFalsely : Prop := fnExactCountPartsRow.holds Tryd.pinned (OpenSpec.ofChange fnExactCountPartsWrong)

/-- 'laws.FnExactGreatestPart': WHATEVER THE INPUT: true; the input reads as it did. -/
def fnExactGreatestPartSpec : ChangeSpec := { name := "fnExactGreatestPart", fn := fun _ => fun
  | [d1, d2] => { results := [.lit (.bool true)], args := [d1, d2] }
  | _ => none }
def fnExactGreatestPartRow : OpenClaim := { program := "ytedpdfmaccoinaadoor", sum := "aa0d2bc013b85985597e7188e8b0f6389627bf46e1abf391b9b3527fc784072b", func := "loop.example/g01377/laws.FnExactGreatestPart", spec := "fnExactGreatestPart", inPlace := ["internal/bytealg.IndexByteString", "internal/bytealg.IndexString"], unfollowed := true, recurses := true, named := ["unicode/utf8.first", "unicode/utf8.acceptRanges", "internal/bytealg.MaxLen"], plainKeys := false, apart := false, laid := [("unicode/utf8.acceptRanges", laid_unicode_utf8_acceptRanges), ("unicode/utf8.first", laid_unicode_utf8_first)] }
def FnExactGreatestPartSaid : Prop := fnExactGreatestPartRow.holds Tryd.pinned (OpenSpec.ofChange fnExactGreatestPartSpec)

/-- ITS FALSE NEIGHBOUR: 'it returns false'. Refute it at one input. -/
def fnExactGreatestPartWrong : ChangeSpec := { name := "fnExactGreatestPart", fn := fun _ => fun
  | [d1, d2] => { results := [.lit (.bool false)], args := [d1, d2] }
  | _ => none }
def FnExactGreatestPartWrongFalsely : Prop := fnExactGreatestPartRow.holds Tryd.pinned (OpenSpec.ofChange fnExactGreatestPartWrong)

/-- 'laws.FnExactEvenBreak': WHATEVER THE INPUT: true; the input reads as it did. -/
def fnExactEvenBreakSpec : ChangeSpec := { name := "fnExactEvenBreak", fn := fun _ => fun
  | [d] => { results := [.lit (.bool true)], args := [d] }
  | _ => none }
def fnExactEvenBreakRow : OpenClaim := { program := "ytedpdfmaccoinaadoor", sum := "aa0d2bc013b85985597e7188e8b0f6389627bf46e1abf391b9b3527fc784072b", func := "loop.example/g01377/laws.FnExactEvenBreak", spec := "fnExactEvenBreak", inPlace := ["internal/bytealg.IndexByteString", "internal/bytealg.IndexString"], unfollowed := true, recurses := true, named := ["unicode/utf8.first", "unicode/utf8.acceptRanges", "internal/bytealg.MaxLen"], plainKeys := false, apart := false, laid := [("unicode/utf8.acceptRanges", laid_unicode_utf8_acceptRanges), ("unicode/utf8.first", laid_unicode_utf8_first)] }
def FnExactEvenBreakSaid : Prop := fnExactEvenBreakRow.holds Tryd.pinned (OpenSpec.ofChange fnExactEvenBreakSpec)

/-- ITS FALSE NEIGHBOUR: 'it returns false'. Refute it at one input. -/
def fnExactEvenBreakWrong : ChangeSpec := { name := "fnExactEvenBreak", fn := fun _ => fun
  | [d] => { results := [.lit (.bool false)], args := [d] }
  | _ => none }
def FnExactEvenBreakWrongFalsely : Prop := fnExactEvenBreakRow.holds Tryd.pinned (OpenSpec.ofChange fnExactEvenBreakWrong)

/-- 'laws.FnExactEqualBreaks': WHATEVER THE INPUT: true; the input reads as it did. -/
def fnExactEqualBreaksSpec : ChangeSpec := { name := "fnExactEqualBreaks", fn := fun _ => fun
  | [d] => { results := [.lit (.bool true)], args := [d] }
  | _ => none }
def fnExactEqualBreaksRow : OpenClaim := { program := "ytedpdfmaccoinaadoor", sum := "aa0d2bc013b85985597e7188e8b0f6389627bf46e1abf391b9b3527fc784072b", func := "loop.example/g01377/laws.FnExactEqualBreaks", spec := "fnExactEqualBreaks", inPlace := ["internal/bytealg.IndexByteString", "internal/bytealg.IndexString"], unfollowed := true, recurses := true, named := ["unicode/utf8.first", "unicode/utf8.acceptRanges", "internal/bytealg.MaxLen"], plainKeys := false, apart := false, laid := [("unicode/utf8.acceptRanges", laid_unicode_utf8_acceptRanges), ("unicode/utf8.first", laid_unicode_utf8_first)] }
def FnExactEqualBreaksSaid : Prop := fnExactEqualBreaksRow.holds Tryd.pinned (OpenSpec.ofChange fnExactEqualBreaksSpec)

/-- ITS FALSE NEIGHBOUR: 'it returns false'. Refute it at one input. -/
def fnExactEqualBreaksWrong : ChangeSpec := { name := "fnExactEqualBreaks", fn := fun _ => fun
  | [d] => { results := [.lit (.bool false)], args := [d] }
  | _ => none }
def FnExactEqualBreaksWrongFalsely : Prop := fnExactEqualBreaksRow.holds Tryd.pinned (OpenSpec.ofChange fnExactEqualBreaksWrong)

/-- 'laws.FnExactPoorestStrip': WHATEVER THE INPUT: true; the input reads as it did. -/
def fnExactPoorestStripSpec : ChangeSpec := { name := "fnExactPoorestStrip", fn := fun _ => fun
  | [d1, d2] => { results := [.lit (.bool true)], args := [d1, d2] }
  | _ => none }
def fnExactPoorestStripRow : OpenClaim := { program := "ytedpdfmaccoinaadoor", sum := "aa0d2bc013b85985597e7188e8b0f6389627bf46e1abf391b9b3527fc784072b", func := "loop.example/g01377/laws.FnExactPoorestStrip", spec := "fnExactPoorestStrip", inPlace := ["internal/bytealg.IndexByteString", "internal/bytealg.IndexString"], unfollowed := true, recurses := true, named := ["unicode/utf8.first", "unicode/utf8.acceptRanges", "internal/bytealg.MaxLen"], plainKeys := false, apart := false, laid := [("unicode/utf8.acceptRanges", laid_unicode_utf8_acceptRanges), ("unicode/utf8.first", laid_unicode_utf8_first)] }
def FnExactPoorestStripSaid : Prop := fnExactPoorestStripRow.holds Tryd.pinned (OpenSpec.ofChange fnExactPoorestStripSpec)

/-- ITS FALSE NEIGHBOUR: 'it returns false'. Refute it at one input. -/
def fnExactPoorestStripWrong : ChangeSpec := { name := "fnExactPoorestStrip", fn := fun _ => fun
  | [d1, d2] => { results := [.lit (.bool false)], args := [d1, d2] }
  | _ => none }
def FnExactPoorestStripWrongFalsely : Prop := fnExactPoorestStripRow.holds Tryd.pinned (OpenSpec.ofChange fnExactPoorestStripWrong)

/-- 'laws.FnExactFirstStrips': WHATEVER THE INPUT: true; the input reads as it did. -/
def fnExactFirstStripsSpec : ChangeSpec := { name := "fnExactFirstStrips", fn := fun _ => fun
  | [d1, d2] => { results := [.lit (.bool true)], args := [d1, d2] }
  | _ => none }
def fnExactFirstStripsRow : OpenClaim := { program := "ytedpdfmaccoinaadoor", sum := "aa0d2bc013b85985597e7188e8b0f6389627bf46e1abf391b9b3527fc784072b", func := "loop.example/g01377/laws.FnExactFirstStrips", spec := "fnExactFirstStrips", inPlace := ["internal/bytealg.IndexByteString", "internal/bytealg.IndexString"], unfollowed := true, recurses := true, named := ["unicode/utf8.first", "unicode/utf8.acceptRanges", "internal/bytealg.MaxLen"], plainKeys := false, apart := false, laid := [("unicode/utf8.acceptRanges", laid_unicode_utf8_acceptRanges), ("unicode/utf8.first", laid_unicode_utf8_first)] }
def FnExactFirstStripsSaid : Prop := fnExactFirstStripsRow.holds Tryd.pinned (OpenSpec.ofChange fnExactFirstStripsSpec)

/-- ITS FALSE NEIGHBOUR: 'it returns false'. Refute it at one input. -/
def fnExactFirstStripsWrong : ChangeSpec := { name := "fnExactFirstStrips", fn := fun _ => fun
  | [d1, d2] => { results := [.lit (.bool false)], args := [d1, d2] }
  | _ => none }
def FnExactFirstStripsWrongFalsely : Prop := fnExactFirstStripsRow.holds Tryd.pinned (OpenSpec.ofChange fnExactFirstStripsWrong)

/-- 'laws.FnExactPoorestPiece': WHATEVER THE INPUT: true; the input reads as it did. -/
def fnExactPoorestPieceSpec : ChangeSpec := { name := "fnExactPoorestPiece", fn := fun _ => fun
  | [d1, d2] => { results := [.lit (.bool true)], args := [d1, d2] }
  | _ => none }
def fnExactPoorestPieceRow : OpenClaim := { program := "ytedpdfmaccoinaadoor", sum := "aa0d2bc013b85985597e7188e8b0f6389627bf46e1abf391b9b3527fc784072b", func := "loop.example/g01377/laws.FnExactPoorestPiece", spec := "fnExactPoorestPiece", inPlace := ["internal/bytealg.IndexByteString", "internal/bytealg.IndexString"], unfollowed := true, recurses := true, named := ["unicode/utf8.first", "unicode/utf8.acceptRanges", "internal/bytealg.MaxLen"], plainKeys := false, apart := false, laid := [("unicode/utf8.acceptRanges", laid_unicode_utf8_acceptRanges), ("unicode/utf8.first", laid_unicode_utf8_first)] }
def FnExactPoorestPieceSaid : Prop := fnExactPoorestPieceRow.holds Tryd.pinned (OpenSpec.ofChange fnExactPoorestPieceSpec)

/-- ITS FALSE NEIGHBOUR: 'it returns false'. Refute it at one input. -/
def fnExactPoorestPieceWrong : ChangeSpec := { name := "fnExactPoorestPiece", fn := fun _ => fun
  | [d1, d2] => { results := [.lit (.bool false)], args := [d1, d2] }
  | _ => none }
def FnExactPoorestPieceWrongFalsely : Prop := fnExactPoorestPieceRow.holds Tryd.pinned (OpenSpec.ofChange fnExactPoorestPieceWrong)

/-- 'laws.FnExactFewestPieces': WHATEVER THE INPUT: true; the input reads as it did. -/
def fnExactFewestPiecesSpec : ChangeSpec := { name := "fnExactFewestPieces", fn := fun _ => fun
  | [d1, d2] => { results := [.lit (.bool true)], args := [d1, d2] }
  | _ => none }
def fnExactFewestPiecesRow : OpenClaim := { program := "ytedpdfmaccoinaadoor", sum := "aa0d2bc013b85985597e7188e8b0f6389627bf46e1abf391b9b3527fc784072b", func := "loop.example/g01377/laws.FnExactFewestPieces", spec := "fnExactFewestPieces", inPlace := ["internal/bytealg.IndexByteString", "internal/bytealg.IndexString"], unfollowed := true, recurses := true, named := ["unicode/utf8.first", "unicode/utf8.acceptRanges", "internal/bytealg.MaxLen"], plainKeys := false, apart := false, laid := [("unicode/utf8.acceptRanges", laid_unicode_utf8_acceptRanges), ("unicode/utf8.first", laid_unicode_utf8_first)] }
def FnExactFewestPiecesSaid : Prop := fnExactFewestPiecesRow.holds Tryd.pinned (OpenSpec.ofChange fnExactFewestPiecesSpec)

/-- ITS FALSE NEIGHBOUR: 'it returns false'. Refute it at one input. -/
def fnExactFewestPiecesWrong : ChangeSpec := { name := "fnExactFewestPieces", fn := fun _ => fun
  | [d1, d2] => { results := [.lit (.bool false)], args := [d1, d2] }
  | _ => none }
def FnExactFewestPiecesWrongFalsely : Prop := fnExactFewestPiecesRow.holds Tryd.pinned (OpenSpec.ofChange fnExactFewestPiecesWrong)

/- THE SECOND FORM. 'bulk': how many values and letters a reading holds, each counted each time it is reached (what is shared counts as often as it is met; a slice's spare places count too). A statement '..UptoSaid' is the law's where the arguments, and the package variables that the reading takes, are together of bulk at most 1048576: NARROWER than '..Said'. Prove '..Said' where nothing that the law and all that it calls make is longer than what came in: it says more and counts as full. Else prove '..UptoSaid'. A law counts once. -/
mutual
def uptoBulk {H : Type} : DataW H → Nat
  | .lit (.string bytes) => bytes.length + 1
  | .lit _ => 1
  | .nil => 1
  | .ptr d => uptoBulk d + 1
  | .slice elems spare => uptoBulkAll elems + uptoBulkAll spare + 1
  | .agg parts => uptoBulkAll parts + 1
  | .iface _ d => uptoBulk d + 1
  | .map entries => uptoBulkEntries entries + 1
  | .held _ => 1
def uptoBulkAll {H : Type} : List (DataW H) → Nat
  | [] => 0
  | d :: r => uptoBulk d + uptoBulkAll r
def uptoBulkEntries {H : Type} : List (Lit × DataW H) → Nat
  | [] => 0
  | x :: r => uptoBulkEntry x + uptoBulkEntries r
def uptoBulkEntry {H : Type} : Lit × DataW H → Nat
  | (.string bytes, d) => bytes.length + uptoBulk d + 1
  | (_, d) => uptoBulk d + 1
 end
def uptoSmall : (H : Type) → List (DataW H) → Bool := fun _ ds => decide (uptoBulkAll ds ≤ 1048576)
def OpenSpec.upto (s : _root_.Go.ChangeSpec) : _root_.Go.OpenSpec := { _root_.Go.OpenSpec.ofChange s with cond := some uptoSmall }

/-- 'laws.FnExactCountParts', WHERE WHAT IT READS IS OF BULK AT MOST 1048576: true; the input reads as it did. -/
def fnExactCountPartsUptoRow : OpenClaim := { program := "ytedpdfmaccoinaadoor", sum := "aa0d2bc013b85985597e7188e8b0f6389627bf46e1abf391b9b3527fc784072b", func := "loop.example/g01377/laws.FnExactCountParts", spec := "fnExactCountParts", inPlace := ["internal/bytealg.IndexByteString", "internal/bytealg.IndexString"], unfollowed := true, recurses := true, named := ["unicode/utf8.first", "unicode/utf8.acceptRanges", "internal/bytealg.MaxLen"], plainKeys := false, apart := false, laid := [("unicode/utf8.acceptRanges", laid_unicode_utf8_acceptRanges), ("unicode/utf8.first", laid_unicode_utf8_first)], narrowed := true }
def FnExactCountPartsUptoSaid : Prop := fnExactCountPartsUptoRow.holds Tryd.pinned (OpenSpec.upto fnExactCountPartsSpec)

/-- 'laws.FnExactGreatestPart', WHERE WHAT IT READS IS OF BULK AT MOST 1048576: true; the input reads as it did. -/
def fnExactGreatestPartUptoRow : OpenClaim := { program := "ytedpdfmaccoinaadoor", sum := "aa0d2bc013b85985597e7188e8b0f6389627bf46e1abf391b9b3527fc784072b", func := "loop.example/g01377/laws.FnExactGreatestPart", spec := "fnExactGreatestPart", inPlace := ["internal/bytealg.IndexByteString", "internal/bytealg.IndexString"], unfollowed := true, recurses := true, named := ["unicode/utf8.first", "unicode/utf8.acceptRanges", "internal/bytealg.MaxLen"], plainKeys := false, apart := false, laid := [("unicode/utf8.acceptRanges", laid_unicode_utf8_acceptRanges), ("unicode/utf8.first", laid_unicode_utf8_first)], narrowed := true }
def FnExactGreatestPartUptoSaid : Prop := fnExactGreatestPartUptoRow.holds Tryd.pinned (OpenSpec.upto fnExactGreatestPartSpec)

/-- 'laws.FnExactEvenBreak', WHERE WHAT IT READS IS OF BULK AT MOST 1048576: true; the input reads as it did. -/
def fnExactEvenBreakUptoRow : OpenClaim := { program := "ytedpdfmaccoinaadoor", sum := "aa0d2bc013b85985597e7188e8b0f6389627bf46e1abf391b9b3527fc784072b", func := "loop.example/g01377/laws.FnExactEvenBreak", spec := "fnExactEvenBreak", inPlace := ["internal/bytealg.IndexByteString", "internal/bytealg.IndexString"], unfollowed := true, recurses := true, named := ["unicode/utf8.first", "unicode/utf8.acceptRanges", "internal/bytealg.MaxLen"], plainKeys := false, apart := false, laid := [("unicode/utf8.acceptRanges", laid_unicode_utf8_acceptRanges), ("unicode/utf8.first", laid_unicode_utf8_first)], narrowed := true }
def FnExactEvenBreakUptoSaid : Prop := fnExactEvenBreakUptoRow.holds Tryd.pinned (OpenSpec.upto fnExactEvenBreakSpec)

/-- 'laws.FnExactEqualBreaks', WHERE WHAT IT READS IS OF BULK AT MOST 1048576: true; the input reads as it did. -/
def fnExactEqualBreaksUptoRow : OpenClaim := { program := "ytedpdfmaccoinaadoor", sum := "aa0d2bc013b85985597e7188e8b0f6389627bf46e1abf391b9b3527fc784072b", func := "loop.example/g01377/laws.FnExactEqualBreaks", spec := "fnExactEqualBreaks", inPlace := ["internal/bytealg.IndexByteString", "internal/bytealg.IndexString"], unfollowed := true, recurses := true, named := ["unicode/utf8.first", "unicode/utf8.acceptRanges", "internal/bytealg.MaxLen"], plainKeys := false, apart := false, laid := [("unicode/utf8.acceptRanges", laid_unicode_utf8_acceptRanges), ("unicode/utf8.first", laid_unicode_utf8_first)], narrowed := true }
def FnExactEqualBreaksUptoSaid : Prop := fnExactEqualBreaksUptoRow.holds Tryd.pinned (OpenSpec.upto fnExactEqualBreaksSpec)

/-- 'laws.FnExactPoorestStrip', WHERE WHAT IT READS IS OF BULK AT MOST 1048576: true; the input reads as it did. -/
def fnExactPoorestStripUptoRow : OpenClaim := { program := "ytedpdfmaccoinaadoor", sum := "aa0d2bc013b85985597e7188e8b0f6389627bf46e1abf391b9b3527fc784072b", func := "loop.example/g01377/laws.FnExactPoorestStrip", spec := "fnExactPoorestStrip", inPlace := ["internal/bytealg.IndexByteString", "internal/bytealg.IndexString"], unfollowed := true, recurses := true, named := ["unicode/utf8.first", "unicode/utf8.acceptRanges", "internal/bytealg.MaxLen"], plainKeys := false, apart := false, laid := [("unicode/utf8.acceptRanges", laid_unicode_utf8_acceptRanges), ("unicode/utf8.first", laid_unicode_utf8_first)], narrowed := true }
def FnExactPoorestStripUptoSaid : Prop := fnExactPoorestStripUptoRow.holds Tryd.pinned (OpenSpec.upto fnExactPoorestStripSpec)

/-- 'laws.FnExactFirstStrips', WHERE WHAT IT READS IS OF BULK AT MOST 1048576: true; the input reads as it did. -/
def fnExactFirstStripsUptoRow : OpenClaim := { program := "ytedpdfmaccoinaadoor", sum := "aa0d2bc013b85985597e7188e8b0f6389627bf46e1abf391b9b3527fc784072b", func := "loop.example/g01377/laws.FnExactFirstStrips", spec := "fnExactFirstStrips", inPlace := ["internal/bytealg.IndexByteString", "internal/bytealg.IndexString"], unfollowed := true, recurses := true, named := ["unicode/utf8.first", "unicode/utf8.acceptRanges", "internal/bytealg.MaxLen"], plainKeys := false, apart := false, laid := [("unicode/utf8.acceptRanges", laid_unicode_utf8_acceptRanges), ("unicode/utf8.first", laid_unicode_utf8_first)], narrowed := true }
def FnExactFirstStripsUptoSaid : Prop := fnExactFirstStripsUptoRow.holds Tryd.pinned (OpenSpec.upto fnExactFirstStripsSpec)

/-- 'laws.FnExactPoorestPiece', WHERE WHAT IT READS IS OF BULK AT MOST 1048576: true; the input reads as it did. -/
def fnExactPoorestPieceUptoRow : OpenClaim := { program := "ytedpdfmaccoinaadoor", sum := "aa0d2bc013b85985597e7188e8b0f6389627bf46e1abf391b9b3527fc784072b", func := "loop.example/g01377/laws.FnExactPoorestPiece", spec := "fnExactPoorestPiece", inPlace := ["internal/bytealg.IndexByteString", "internal/bytealg.IndexString"], unfollowed := true, recurses := true, named := ["unicode/utf8.first", "unicode/utf8.acceptRanges", "internal/bytealg.MaxLen"], plainKeys := false, apart := false, laid := [("unicode/utf8.acceptRanges", laid_unicode_utf8_acceptRanges), ("unicode/utf8.first", laid_unicode_utf8_first)], narrowed := true }
def FnExactPoorestPieceUptoSaid : Prop := fnExactPoorestPieceUptoRow.holds Tryd.pinned (OpenSpec.upto fnExactPoorestPieceSpec)

/-- 'laws.FnExactFewestPieces', WHERE WHAT IT READS IS OF BULK AT MOST 1048576: true; the input reads as it did. -/
def fnExactFewestPiecesUptoRow : OpenClaim := { program := "ytedpdfmaccoinaadoor", sum := "aa0d2bc013b85985597e7188e8b0f6389627bf46e1abf391b9b3527fc784072b", func := "loop.example/g01377/laws.FnExactFewestPieces", spec := "fnExactFewestPieces", inPlace := ["internal/bytealg.IndexByteString", "internal/bytealg.IndexString"], unfollowed := true, recurses := true, named := ["unicode/utf8.first", "unicode/utf8.acceptRanges", "internal/bytealg.MaxLen"], plainKeys := false, apart := false, laid := [("unicode/utf8.acceptRanges", laid_unicode_utf8_acceptRanges), ("unicode/utf8.first", laid_unicode_utf8_first)], narrowed := true }
def FnExactFewestPiecesUptoSaid : Prop := fnExactFewestPiecesUptoRow.holds Tryd.pinned (OpenSpec.upto fnExactFewestPiecesSpec)

end Rows
end Go.Proofs.YtedpdfmaccoinaaDoor
