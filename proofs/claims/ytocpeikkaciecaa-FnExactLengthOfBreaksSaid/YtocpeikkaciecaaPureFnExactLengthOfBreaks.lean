/- LengthOfBreaks of the program answers as the reference's, for all bars and lists of breaks. -/
import Derived.Test.YtocpeikkaciecaaAAfter
import Derived.Test.YtocpeikkaciecaaPx49
namespace Go.Proofs.Ytocpeikkaciecaa.Pure
open Go.RowKit Go.Proofs.Ytocpeikkaciecaa.P Go.Proofs.YtocpeikkaciecaaW.PrintWords Go.Proofs.YtocpeikkaciecaaW.PrintLast
theorem FnExactLengthOfBreaks (a0_0 : Int) (a0_1 : Int) (_ : (Lit.int .i64 a0_0).wf = true) (_ : (Lit.int .i64 a0_1).wf = true) (l1 : List P.S54) (hm : l1.length ≤ maxLen) (_ : l1.length * 24 ≤ 140737488351232) (_ : (∀ x ∈ l1, (Lit.int .i64 x.f0).wf = true ∧ (Lit.int .i64 x.f2).wf = true)) : ∃ k, laws_FnExactLengthOfBreaks.f k a0_0 a0_1 l1 = some true := by
  refine Ev.rounds (r := true) ?_
  unfold laws_FnExactLengthOfBreaks.f
  simp only [szBreakS_some l1 hm, toBar_some, Option.bind_some]
  by_cases hl : l1.length ≤ 1048576
  · simp only [if_pos hl, if_neg (show ¬ (1048576 - (l1.length : Int) < 0) by omega)]
    have ht := toBreakS_ev l1 hl
    have hlen : (l1.map toK).length ≤ 1048576 := by rw [List.length_map]; exact hl
    obtain ⟨r, s, hr, hs, h1, h2, h3, h4⟩ := after_both (l1.map toK) hlen a0_0 a0_1
    have hS : Ev (fun k => spec_LengthOfBreaks.f k a0_0 a0_1 (l1.map toK)) (r.2.1, r.2.2) := by
      unfold spec_LengthOfBreaks.f
      exact Ev.bind hr (Ev.now _)
    have hI : Ev (fun k => impl_LengthOfBreaks.f k a0_0 a0_1 (l1.map toK)) (r.2.1, r.2.2) := by
      unfold impl_LengthOfBreaks.f
      refine Ev.bind hs ?_
      rw [h1]
      cases hb : r.2.2 with
      | true =>
        simp only [if_true]
        rw [h2 hb]
        exact Ev.now _
      | false =>
        simp only [Bool.false_eq_true, if_false]
        rw [(h3 hb).2]
        exact Ev.now _
    refine Ev.bind ht (Ev.bind hS (Ev.bind ht (Ev.bind hI ?_)))
    simp only [if_true, bne_self_eq_false]
    refine Ev.step (fun k => by simp only [laws_FnExactLengthOfBreaks.j0, Bool.false_eq_true, if_false]; rfl) ?_
    refine Ev.bind ht (Ev.bind (eqBreakS_refl _ (by omega)) ?_)
    simp only [if_true]
    exact Ev.now _
  · simp only [if_neg hl, if_pos (show (-1 : Int) < 0 by omega)]
    exact Ev.now _
end Go.Proofs.Ytocpeikkaciecaa.Pure
