/-
  No cell of these rows narrows 'for every input' (looked for: loops, veiled, ifaces, maps, wideKeys, modest, calm, conditions, laid).
  DERIVED. THE GIVEN ROWS OF THIS SEAT. 11 by the template 'for every input the law returns true; each argument reads behind the call as it read before'; 0 by the template 'total and deterministic' (their statements: YtfppdfphbphhhaaTotals.lean).
  GIVEN WITH THE SEED: the statements are not yours to turn. If you find one false, say at which input.
  Laid BY PROGRAM, IN A SANDBOX (cutbox-rows.mjs): the forced cells as the released guide's own fill.sh prints them over the translation a99d0770e0a22313… (all of the seat's roots in one cut). By AI agents, Wed Nov 11 2026. No macro, syntax, notation, axiom, sorry.
-/
import Derived.Test.YtfppdfphbphhhaaChecked
import GoSem.Claim
import GoSem.ClaimJoined
import GoSem.ClaimMapViews
import Derived.JoinedTies
import Derived.KernelRfl
namespace Go.Proofs.Ytfppdfphbphhhaa
/- THE CELL 'sum', in the pinned program and in every row, IS THE sha256 OF THE DUMP (.gsa) THAT YtfppdfphbphhhaaProg.lean LOADS. Nothing in Lean hashes anything: it is a label: what it is worth is what the hold of that sum in a sandbox is worth. -/
noncomputable def Try.pinned : Pinned := { name := "ytfppdfphbphhhaa", sum := "a99d0770e0a22313e25bf880e1cd0c07c556a1d382189bb586b97f77fff7fd7b", checked := Try.checked }
namespace Rows
def none {H : Type} : Left H := { results := [], args := [] }

/-- 'laws.FnExactIsChomp': WHATEVER THE INPUT: true; the input reads as it did. -/
def fnExactIsChompSpec : ChangeSpec := { name := "fnExactIsChomp", fn := fun _ => fun
  | [d] => { results := [.lit (.bool true)], args := [d] }
  | _ => none }
def fnExactIsChompRow : OpenClaim := { program := "ytfppdfphbphhhaa", sum := "a99d0770e0a22313e25bf880e1cd0c07c556a1d382189bb586b97f77fff7fd7b", func := "loop.example/g01377/laws.FnExactIsChomp", spec := "fnExactIsChomp", unfollowed := true, recurses := true, apart := false }
def FnExactIsChompSaid : Prop := fnExactIsChompRow.holds Try.pinned (OpenSpec.ofChange fnExactIsChompSpec)

/-- ITS FALSE NEIGHBOUR: 'it returns false'. Refute it at one input. -/
def fnExactIsChompWrong : ChangeSpec := { name := "fnExactIsChomp", fn := fun _ => fun
  | [d] => { results := [.lit (.bool false)], args := [d] }
  | _ => none }
def FnExactIsChompWrongFalsely : Prop := fnExactIsChompRow.holds Try.pinned (OpenSpec.ofChange fnExactIsChompWrong)

/-- 'laws.FnExactLeftSquares': WHATEVER THE INPUT: true; the input reads as it did. -/
def fnExactLeftSquaresSpec : ChangeSpec := { name := "fnExactLeftSquares", fn := fun _ => fun
  | [d] => { results := [.lit (.bool true)], args := [d] }
  | _ => none }
def fnExactLeftSquaresRow : OpenClaim := { program := "ytfppdfphbphhhaa", sum := "a99d0770e0a22313e25bf880e1cd0c07c556a1d382189bb586b97f77fff7fd7b", func := "loop.example/g01377/laws.FnExactLeftSquares", spec := "fnExactLeftSquares", unfollowed := true, recurses := true, apart := false }
def FnExactLeftSquaresSaid : Prop := fnExactLeftSquaresRow.holds Try.pinned (OpenSpec.ofChange fnExactLeftSquaresSpec)

/-- ITS FALSE NEIGHBOUR: 'it returns false'. Refute it at one input. -/
def fnExactLeftSquaresWrong : ChangeSpec := { name := "fnExactLeftSquares", fn := fun _ => fun
  | [d] => { results := [.lit (.bool false)], args := [d] }
  | _ => none }
def FnExactLeftSquaresWrongFalsely : Prop := fnExactLeftSquaresRow.holds Try.pinned (OpenSpec.ofChange fnExactLeftSquaresWrong)

/-- 'laws.FnExactMostChompMoves': WHATEVER THE INPUT: true; the input reads as it did. -/
def fnExactMostChompMovesSpec : ChangeSpec := { name := "fnExactMostChompMoves", fn := fun _ => fun
  | [d] => { results := [.lit (.bool true)], args := [d] }
  | _ => none }
def fnExactMostChompMovesRow : OpenClaim := { program := "ytfppdfphbphhhaa", sum := "a99d0770e0a22313e25bf880e1cd0c07c556a1d382189bb586b97f77fff7fd7b", func := "loop.example/g01377/laws.FnExactMostChompMoves", spec := "fnExactMostChompMoves", unfollowed := true, recurses := true, apart := false }
def FnExactMostChompMovesSaid : Prop := fnExactMostChompMovesRow.holds Try.pinned (OpenSpec.ofChange fnExactMostChompMovesSpec)

/-- ITS FALSE NEIGHBOUR: 'it returns false'. Refute it at one input. -/
def fnExactMostChompMovesWrong : ChangeSpec := { name := "fnExactMostChompMoves", fn := fun _ => fun
  | [d] => { results := [.lit (.bool false)], args := [d] }
  | _ => none }
def FnExactMostChompMovesWrongFalsely : Prop := fnExactMostChompMovesRow.holds Try.pinned (OpenSpec.ofChange fnExactMostChompMovesWrong)

/-- 'laws.FnExactParseChomp': WHATEVER THE INPUT: true; the input reads as it did. -/
def fnExactParseChompSpec : ChangeSpec := { name := "fnExactParseChomp", fn := fun _ => fun
  | [d] => { results := [.lit (.bool true)], args := [d] }
  | _ => none }
def fnExactParseChompRow : OpenClaim := { program := "ytfppdfphbphhhaa", sum := "a99d0770e0a22313e25bf880e1cd0c07c556a1d382189bb586b97f77fff7fd7b", func := "loop.example/g01377/laws.FnExactParseChomp", spec := "fnExactParseChomp", unfollowed := true, recurses := true, apart := false }
def FnExactParseChompSaid : Prop := fnExactParseChompRow.holds Try.pinned (OpenSpec.ofChange fnExactParseChompSpec)

/-- ITS FALSE NEIGHBOUR: 'it returns false'. Refute it at one input. -/
def fnExactParseChompWrong : ChangeSpec := { name := "fnExactParseChomp", fn := fun _ => fun
  | [d] => { results := [.lit (.bool false)], args := [d] }
  | _ => none }
def FnExactParseChompWrongFalsely : Prop := fnExactParseChompRow.holds Try.pinned (OpenSpec.ofChange fnExactParseChompWrong)

/-- 'laws.FnExactWholeChomp': WHATEVER THE INPUT: true; the input reads as it did. -/
def fnExactWholeChompSpec : ChangeSpec := { name := "fnExactWholeChomp", fn := fun _ => fun
  | [d1, d2] => { results := [.lit (.bool true)], args := [d1, d2] }
  | _ => none }
def fnExactWholeChompRow : OpenClaim := { program := "ytfppdfphbphhhaa", sum := "a99d0770e0a22313e25bf880e1cd0c07c556a1d382189bb586b97f77fff7fd7b", func := "loop.example/g01377/laws.FnExactWholeChomp", spec := "fnExactWholeChomp", apart := false }
def FnExactWholeChompSaid : Prop := fnExactWholeChompRow.holds Try.pinned (OpenSpec.ofChange fnExactWholeChompSpec)

/-- ITS FALSE NEIGHBOUR: 'it returns false'. Refute it at one input. -/
def fnExactWholeChompWrong : ChangeSpec := { name := "fnExactWholeChomp", fn := fun _ => fun
  | [d1, d2] => { results := [.lit (.bool false)], args := [d1, d2] }
  | _ => none }
def FnExactWholeChompWrongFalsely : Prop := fnExactWholeChompRow.holds Try.pinned (OpenSpec.ofChange fnExactWholeChompWrong)

/-- 'laws.FnExactTurnChomp': WHATEVER THE INPUT: true; the input reads as it did. -/
def fnExactTurnChompSpec : ChangeSpec := { name := "fnExactTurnChomp", fn := fun _ => fun
  | [d] => { results := [.lit (.bool true)], args := [d] }
  | _ => none }
def fnExactTurnChompRow : OpenClaim := { program := "ytfppdfphbphhhaa", sum := "a99d0770e0a22313e25bf880e1cd0c07c556a1d382189bb586b97f77fff7fd7b", func := "loop.example/g01377/laws.FnExactTurnChomp", spec := "fnExactTurnChomp", unfollowed := true, recurses := true, apart := false }
def FnExactTurnChompSaid : Prop := fnExactTurnChompRow.holds Try.pinned (OpenSpec.ofChange fnExactTurnChompSpec)

/-- ITS FALSE NEIGHBOUR: 'it returns false'. Refute it at one input. -/
def fnExactTurnChompWrong : ChangeSpec := { name := "fnExactTurnChomp", fn := fun _ => fun
  | [d] => { results := [.lit (.bool false)], args := [d] }
  | _ => none }
def FnExactTurnChompWrongFalsely : Prop := fnExactTurnChompRow.holds Try.pinned (OpenSpec.ofChange fnExactTurnChompWrong)

/-- 'laws.FnExactChompMoves': WHATEVER THE INPUT: true; the input reads as it did. -/
def fnExactChompMovesSpec : ChangeSpec := { name := "fnExactChompMoves", fn := fun _ => fun
  | [d] => { results := [.lit (.bool true)], args := [d] }
  | _ => none }
def fnExactChompMovesRow : OpenClaim := { program := "ytfppdfphbphhhaa", sum := "a99d0770e0a22313e25bf880e1cd0c07c556a1d382189bb586b97f77fff7fd7b", func := "loop.example/g01377/laws.FnExactChompMoves", spec := "fnExactChompMoves", unfollowed := true, recurses := true, apart := false }
def FnExactChompMovesSaid : Prop := fnExactChompMovesRow.holds Try.pinned (OpenSpec.ofChange fnExactChompMovesSpec)

/-- ITS FALSE NEIGHBOUR: 'it returns false'. Refute it at one input. -/
def fnExactChompMovesWrong : ChangeSpec := { name := "fnExactChompMoves", fn := fun _ => fun
  | [d] => { results := [.lit (.bool false)], args := [d] }
  | _ => none }
def FnExactChompMovesWrongFalsely : Prop := fnExactChompMovesRow.holds Try.pinned (OpenSpec.ofChange fnExactChompMovesWrong)

/-- 'laws.FnExactChompAt': WHATEVER THE INPUT: true; the input reads as it did. -/
def fnExactChompAtSpec : ChangeSpec := { name := "fnExactChompAt", fn := fun _ => fun
  | [d1, d2, d3] => { results := [.lit (.bool true)], args := [d1, d2, d3] }
  | _ => none }
def fnExactChompAtRow : OpenClaim := { program := "ytfppdfphbphhhaa", sum := "a99d0770e0a22313e25bf880e1cd0c07c556a1d382189bb586b97f77fff7fd7b", func := "loop.example/g01377/laws.FnExactChompAt", spec := "fnExactChompAt", unfollowed := true, recurses := true, apart := false }
def FnExactChompAtSaid : Prop := fnExactChompAtRow.holds Try.pinned (OpenSpec.ofChange fnExactChompAtSpec)

/-- ITS FALSE NEIGHBOUR: 'it returns false'. Refute it at one input. -/
def fnExactChompAtWrong : ChangeSpec := { name := "fnExactChompAt", fn := fun _ => fun
  | [d1, d2, d3] => { results := [.lit (.bool false)], args := [d1, d2, d3] }
  | _ => none }
def FnExactChompAtWrongFalsely : Prop := fnExactChompAtRow.holds Try.pinned (OpenSpec.ofChange fnExactChompAtWrong)

/-- 'laws.FnExactCountChomps': WHATEVER THE INPUT: true; the input reads as it did. -/
def fnExactCountChompsSpec : ChangeSpec := { name := "fnExactCountChomps", fn := fun _ => fun
  | [d1, d2] => { results := [.lit (.bool true)], args := [d1, d2] }
  | _ => none }
def fnExactCountChompsRow : OpenClaim := { program := "ytfppdfphbphhhaa", sum := "a99d0770e0a22313e25bf880e1cd0c07c556a1d382189bb586b97f77fff7fd7b", func := "loop.example/g01377/laws.FnExactCountChomps", spec := "fnExactCountChomps", unfollowed := true, recurses := true, apart := false }
def FnExactCountChompsSaid : Prop := fnExactCountChompsRow.holds Try.pinned (OpenSpec.ofChange fnExactCountChompsSpec)

/-- ITS FALSE NEIGHBOUR: 'it returns false'. Refute it at one input. -/
def fnExactCountChompsWrong : ChangeSpec := { name := "fnExactCountChomps", fn := fun _ => fun
  | [d1, d2] => { results := [.lit (.bool false)], args := [d1, d2] }
  | _ => none }
def FnExactCountChompsWrongFalsely : Prop := fnExactCountChompsRow.holds Try.pinned (OpenSpec.ofChange fnExactCountChompsWrong)

/-- 'laws.FnExactChompOfRank': WHATEVER THE INPUT: true; the input reads as it did. -/
def fnExactChompOfRankSpec : ChangeSpec := { name := "fnExactChompOfRank", fn := fun _ => fun
  | [d] => { results := [.lit (.bool true)], args := [d] }
  | _ => none }
def fnExactChompOfRankRow : OpenClaim := { program := "ytfppdfphbphhhaa", sum := "a99d0770e0a22313e25bf880e1cd0c07c556a1d382189bb586b97f77fff7fd7b", func := "loop.example/g01377/laws.FnExactChompOfRank", spec := "fnExactChompOfRank", unfollowed := true, recurses := true, apart := false }
def FnExactChompOfRankSaid : Prop := fnExactChompOfRankRow.holds Try.pinned (OpenSpec.ofChange fnExactChompOfRankSpec)

/-- ITS FALSE NEIGHBOUR: 'it returns false'. Refute it at one input. -/
def fnExactChompOfRankWrong : ChangeSpec := { name := "fnExactChompOfRank", fn := fun _ => fun
  | [d] => { results := [.lit (.bool false)], args := [d] }
  | _ => none }
def FnExactChompOfRankWrongFalsely : Prop := fnExactChompOfRankRow.holds Try.pinned (OpenSpec.ofChange fnExactChompOfRankWrong)

/-- 'laws.FnExactRankOfChomp': WHATEVER THE INPUT: true; the input reads as it did. -/
def fnExactRankOfChompSpec : ChangeSpec := { name := "fnExactRankOfChomp", fn := fun _ => fun
  | [d] => { results := [.lit (.bool true)], args := [d] }
  | _ => none }
def fnExactRankOfChompRow : OpenClaim := { program := "ytfppdfphbphhhaa", sum := "a99d0770e0a22313e25bf880e1cd0c07c556a1d382189bb586b97f77fff7fd7b", func := "loop.example/g01377/laws.FnExactRankOfChomp", spec := "fnExactRankOfChomp", unfollowed := true, recurses := true, apart := false }
def FnExactRankOfChompSaid : Prop := fnExactRankOfChompRow.holds Try.pinned (OpenSpec.ofChange fnExactRankOfChompSpec)

/-- ITS FALSE NEIGHBOUR: 'it returns false'. Refute it at one input. -/
def fnExactRankOfChompWrong : ChangeSpec := { name := "fnExactRankOfChomp", fn := fun _ => fun
  | [d] => { results := [.lit (.bool false)], args := [d] }
  | _ => none }
def FnExactRankOfChompWrongFalsely : Prop := fnExactRankOfChompRow.holds Try.pinned (OpenSpec.ofChange fnExactRankOfChompWrong)

/- THE SECOND FORM. 'bulk': how many values and letters a reading holds, each counted each time it is reached (what is shared counts as often as it is met; a slice's spare places count too). A statement '..UptoSaid' is the law's where the arguments, and the package variables that the reading takes, are together of bulk at most 1048576: NARROWER than '..Said'. Prove '..Said' where nothing that the law and all that it calls make is longer than what came in: it says more and counts as full. Else prove '..UptoSaid'. A law counts once. -/
mutual
def uptoBulk {H : Type} : DataW H → Nat
  | .lit (.string bytes) => bytes.length + 1
  | .lit _ => 1
  | .nil => 1
  | .ptr d => uptoBulk d + 1
  | .slice elems spare => uptoBulkAll elems + uptoBulkAll spare + 1
  | .agg parts => uptoBulkAll parts + 1
  | .iface _ d => uptoBulk d + 1
  | .map entries => uptoBulkEntries entries + 1
  | .held _ => 1
def uptoBulkAll {H : Type} : List (DataW H) → Nat
  | [] => 0
  | d :: r => uptoBulk d + uptoBulkAll r
def uptoBulkEntries {H : Type} : List (Lit × DataW H) → Nat
  | [] => 0
  | x :: r => uptoBulkEntry x + uptoBulkEntries r
def uptoBulkEntry {H : Type} : Lit × DataW H → Nat
  | (.string bytes, d) => bytes.length + uptoBulk d + 1
  | (_, d) => uptoBulk d + 1
 end
def uptoSmall : (H : Type) → List (DataW H) → Bool := fun _ ds => decide (uptoBulkAll ds ≤ 1048576)
def OpenSpec.upto (s : _root_.Go.ChangeSpec) : _root_.Go.OpenSpec := { _root_.Go.OpenSpec.ofChange s with cond := some uptoSmall }

/-- 'laws.FnExactIsChomp', WHERE WHAT IT READS IS OF BULK AT MOST 1048576: true; the input reads as it did. -/
def fnExactIsChompUptoRow : OpenClaim := { program := "ytfppdfphbphhhaa", sum := "a99d0770e0a22313e25bf880e1cd0c07c556a1d382189bb586b97f77fff7fd7b", func := "loop.example/g01377/laws.FnExactIsChomp", spec := "fnExactIsChomp", unfollowed := true, recurses := true, apart := false, narrowed := true }
def FnExactIsChompUptoSaid : Prop := fnExactIsChompUptoRow.holds Try.pinned (OpenSpec.upto fnExactIsChompSpec)

/-- 'laws.FnExactLeftSquares', WHERE WHAT IT READS IS OF BULK AT MOST 1048576: true; the input reads as it did. -/
def fnExactLeftSquaresUptoRow : OpenClaim := { program := "ytfppdfphbphhhaa", sum := "a99d0770e0a22313e25bf880e1cd0c07c556a1d382189bb586b97f77fff7fd7b", func := "loop.example/g01377/laws.FnExactLeftSquares", spec := "fnExactLeftSquares", unfollowed := true, recurses := true, apart := false, narrowed := true }
def FnExactLeftSquaresUptoSaid : Prop := fnExactLeftSquaresUptoRow.holds Try.pinned (OpenSpec.upto fnExactLeftSquaresSpec)

/-- 'laws.FnExactMostChompMoves', WHERE WHAT IT READS IS OF BULK AT MOST 1048576: true; the input reads as it did. -/
def fnExactMostChompMovesUptoRow : OpenClaim := { program := "ytfppdfphbphhhaa", sum := "a99d0770e0a22313e25bf880e1cd0c07c556a1d382189bb586b97f77fff7fd7b", func := "loop.example/g01377/laws.FnExactMostChompMoves", spec := "fnExactMostChompMoves", unfollowed := true, recurses := true, apart := false, narrowed := true }
def FnExactMostChompMovesUptoSaid : Prop := fnExactMostChompMovesUptoRow.holds Try.pinned (OpenSpec.upto fnExactMostChompMovesSpec)

/-- 'laws.FnExactParseChomp', WHERE WHAT IT READS IS OF BULK AT MOST 1048576: true; the input reads as it did. -/
def fnExactParseChompUptoRow : OpenClaim := { program := "ytfppdfphbphhhaa", sum := "a99d0770e0a22313e25bf880e1cd0c07c556a1d382189bb586b97f77fff7fd7b", func := "loop.example/g01377/laws.FnExactParseChomp", spec := "fnExactParseChomp", unfollowed := true, recurses := true, apart := false, narrowed := true }
def FnExactParseChompUptoSaid : Prop := fnExactParseChompUptoRow.holds Try.pinned (OpenSpec.upto fnExactParseChompSpec)

/-- 'laws.FnExactWholeChomp', WHERE WHAT IT READS IS OF BULK AT MOST 1048576: true; the input reads as it did. -/
def fnExactWholeChompUptoRow : OpenClaim := { program := "ytfppdfphbphhhaa", sum := "a99d0770e0a22313e25bf880e1cd0c07c556a1d382189bb586b97f77fff7fd7b", func := "loop.example/g01377/laws.FnExactWholeChomp", spec := "fnExactWholeChomp", apart := false, narrowed := true }
def FnExactWholeChompUptoSaid : Prop := fnExactWholeChompUptoRow.holds Try.pinned (OpenSpec.upto fnExactWholeChompSpec)

/-- 'laws.FnExactTurnChomp', WHERE WHAT IT READS IS OF BULK AT MOST 1048576: true; the input reads as it did. -/
def fnExactTurnChompUptoRow : OpenClaim := { program := "ytfppdfphbphhhaa", sum := "a99d0770e0a22313e25bf880e1cd0c07c556a1d382189bb586b97f77fff7fd7b", func := "loop.example/g01377/laws.FnExactTurnChomp", spec := "fnExactTurnChomp", unfollowed := true, recurses := true, apart := false, narrowed := true }
def FnExactTurnChompUptoSaid : Prop := fnExactTurnChompUptoRow.holds Try.pinned (OpenSpec.upto fnExactTurnChompSpec)

/-- 'laws.FnExactChompMoves', WHERE WHAT IT READS IS OF BULK AT MOST 1048576: true; the input reads as it did. -/
def fnExactChompMovesUptoRow : OpenClaim := { program := "ytfppdfphbphhhaa", sum := "a99d0770e0a22313e25bf880e1cd0c07c556a1d382189bb586b97f77fff7fd7b", func := "loop.example/g01377/laws.FnExactChompMoves", spec := "fnExactChompMoves", unfollowed := true, recurses := true, apart := false, narrowed := true }
def FnExactChompMovesUptoSaid : Prop := fnExactChompMovesUptoRow.holds Try.pinned (OpenSpec.upto fnExactChompMovesSpec)

/-- 'laws.FnExactChompAt', WHERE WHAT IT READS IS OF BULK AT MOST 1048576: true; the input reads as it did. -/
def fnExactChompAtUptoRow : OpenClaim := { program := "ytfppdfphbphhhaa", sum := "a99d0770e0a22313e25bf880e1cd0c07c556a1d382189bb586b97f77fff7fd7b", func := "loop.example/g01377/laws.FnExactChompAt", spec := "fnExactChompAt", unfollowed := true, recurses := true, apart := false, narrowed := true }
def FnExactChompAtUptoSaid : Prop := fnExactChompAtUptoRow.holds Try.pinned (OpenSpec.upto fnExactChompAtSpec)

/-- 'laws.FnExactCountChomps', WHERE WHAT IT READS IS OF BULK AT MOST 1048576: true; the input reads as it did. -/
def fnExactCountChompsUptoRow : OpenClaim := { program := "ytfppdfphbphhhaa", sum := "a99d0770e0a22313e25bf880e1cd0c07c556a1d382189bb586b97f77fff7fd7b", func := "loop.example/g01377/laws.FnExactCountChomps", spec := "fnExactCountChomps", unfollowed := true, recurses := true, apart := false, narrowed := true }
def FnExactCountChompsUptoSaid : Prop := fnExactCountChompsUptoRow.holds Try.pinned (OpenSpec.upto fnExactCountChompsSpec)

/-- 'laws.FnExactChompOfRank', WHERE WHAT IT READS IS OF BULK AT MOST 1048576: true; the input reads as it did. -/
def fnExactChompOfRankUptoRow : OpenClaim := { program := "ytfppdfphbphhhaa", sum := "a99d0770e0a22313e25bf880e1cd0c07c556a1d382189bb586b97f77fff7fd7b", func := "loop.example/g01377/laws.FnExactChompOfRank", spec := "fnExactChompOfRank", unfollowed := true, recurses := true, apart := false, narrowed := true }
def FnExactChompOfRankUptoSaid : Prop := fnExactChompOfRankUptoRow.holds Try.pinned (OpenSpec.upto fnExactChompOfRankSpec)

/-- 'laws.FnExactRankOfChomp', WHERE WHAT IT READS IS OF BULK AT MOST 1048576: true; the input reads as it did. -/
def fnExactRankOfChompUptoRow : OpenClaim := { program := "ytfppdfphbphhhaa", sum := "a99d0770e0a22313e25bf880e1cd0c07c556a1d382189bb586b97f77fff7fd7b", func := "loop.example/g01377/laws.FnExactRankOfChomp", spec := "fnExactRankOfChomp", unfollowed := true, recurses := true, apart := false, narrowed := true }
def FnExactRankOfChompUptoSaid : Prop := fnExactRankOfChompUptoRow.holds Try.pinned (OpenSpec.upto fnExactRankOfChompSpec)

end Rows
end Go.Proofs.Ytfppdfphbphhhaa
