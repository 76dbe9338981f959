/- IsChomp of the program answers as the reference's, for all lists. -/
import Derived.Test.YtfppdfphbphhhaaUInts
import Derived.Test.YtfppdfphbphhhaaCChomp
import Derived.Test.YtfppdfphbphhhaaPx12
namespace Go.Proofs.Ytfppdfphbphhhaa.Pure
open Go.RowKit Go.Proofs.Ytfppdfphbphhhaa.P Go.Proofs.YtfppdfphbphhhaaW.PrintWords Go.Proofs.YtfppdfphbphhhaaW.PrintLast
theorem FnExactIsChomp (l0 : List Int) (_ : l0.length ≤ maxLen) (_ : l0.length * 8 ≤ 140737488351232) (_ : (∀ x ∈ l0, (Lit.int .i64 x).wf = true)) : ∃ k, laws_FnExactIsChomp.f k l0 = some true := by
  refine Ev.rounds (r := true) ?_
  unfold laws_FnExactIsChomp.f
  by_cases hl : l0.length ≤ 1048576
  · simp only [if_neg (show ¬ ((l0.length : Int) > 1048576) by omega)]
    have ht := toIntS_ev l0 hl
    obtain ⟨b, hs, hi, -⟩ := good_both l0 hl
    have hS : Ev (fun k => spec_IsChomp.f k l0) b := by
      unfold spec_IsChomp.f
      exact Ev.bind hs (Ev.now _)
    refine Ev.bind ht (Ev.bind hS (Ev.bind ht (Ev.bind hi ?_)))
    simp only [bne_self_eq_false, Bool.false_eq_true, if_false]
    refine Ev.bind ht (Ev.bind (eqIntS_refl l0 (by omega)) ?_)
    simp only [if_true]
    exact Ev.now _
  · simp only [if_pos (show ((l0.length : Int) > 1048576) by omega)]
    exact Ev.now _
end Go.Proofs.Ytfppdfphbphhhaa.Pure
