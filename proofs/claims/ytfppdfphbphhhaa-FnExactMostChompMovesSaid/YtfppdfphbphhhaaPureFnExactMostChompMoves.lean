/- MostChompMoves of the program answers as the reference's, for all lists. -/
import Derived.Test.YtfppdfphbphhhaaUInts
import Derived.Test.YtfppdfphbphhhaaCChomp
import Derived.Test.YtfppdfphbphhhaaCSum
import Derived.Test.YtfppdfphbphhhaaPx20
namespace Go.Proofs.Ytfppdfphbphhhaa.Pure
open Go.RowKit Go.Proofs.Ytfppdfphbphhhaa.P Go.Proofs.YtfppdfphbphhhaaW.PrintWords Go.Proofs.YtfppdfphbphhhaaW.PrintLast
theorem FnExactMostChompMoves (l0 : List Int) (_ : l0.length ≤ maxLen) (_ : l0.length * 8 ≤ 140737488351232) (_ : (∀ x ∈ l0, (Lit.int .i64 x).wf = true)) : ∃ k, laws_FnExactMostChompMoves.f k l0 = some true := by
  refine Ev.rounds (r := true) ?_
  unfold laws_FnExactMostChompMoves.f
  by_cases hl : l0.length ≤ 1048576
  · simp only [if_neg (show ¬ ((l0.length : Int) > 1048576) by omega)]
    have ht := toIntS_ev l0 hl
    obtain ⟨b, hs, hi, -⟩ := good_both l0 hl
    obtain ⟨s, ss, si⟩ := sum_both l0 hl
    obtain ⟨u, hS, hI⟩ : ∃ u, Ev (fun k => spec_MostChompMoves.f k l0) u ∧ Ev (fun k => impl_MostChompMoves.f k l0) u := by
      unfold spec_MostChompMoves.f impl_MostChompMoves.f
      cases b with
      | true =>
        refine ⟨(wrap64 (s - 1), true), Ev.bind hs ?_, Ev.bind hi ?_⟩
        · simp only [if_true]
          exact Ev.bind ss (Ev.now _)
        · simp only [if_true]
          exact Ev.bind si (Ev.now _)
      | false =>
        refine ⟨(0, false), Ev.bind hs ?_, Ev.bind hi ?_⟩
        · simp only [Bool.false_eq_true, if_false]
          exact Ev.now _
        · simp only [Bool.false_eq_true, if_false]
          exact Ev.now _
    refine Ev.bind ht (Ev.bind hS (Ev.bind ht (Ev.bind hI ?_)))
    simp only [if_true, bne_self_eq_false]
    refine Ev.step (fun k => by simp only [laws_FnExactMostChompMoves.j0, Bool.false_eq_true, if_false]; rfl) ?_
    refine Ev.bind ht (Ev.bind (eqIntS_refl l0 (by omega)) ?_)
    simp only [if_true]
    exact Ev.now _
  · simp only [if_pos (show ((l0.length : Int) > 1048576) by omega)]
    exact Ev.now _
end Go.Proofs.Ytfppdfphbphhhaa.Pure
