/- PiecesAfter of the program answers as the reference's, for all bars and lists of breaks; its argument stays, and what it hands back is memory of its own. -/
import Derived.Test.YtocpeikkaciecaaAAfter
import Derived.Test.YtocpeikkaciecaaABars
import Derived.Test.YtocpeikkaciecaaPx55
namespace Go.Proofs.Ytocpeikkaciecaa.Pure
open Go.RowKit Go.Proofs.Ytocpeikkaciecaa.P Go.Proofs.YtocpeikkaciecaaW.PrintWords Go.Proofs.YtocpeikkaciecaaW.PrintLast
theorem FnExactPiecesAfter (a0_0 : Int) (a0_1 : Int) (_ : (Lit.int .i64 a0_0).wf = true) (_ : (Lit.int .i64 a0_1).wf = true) (l1 : List P.S54) (hm : l1.length ≤ maxLen) (_ : l1.length * 24 ≤ 140737488351232) (_ : (∀ x ∈ l1, (Lit.int .i64 x.f0).wf = true ∧ (Lit.int .i64 x.f2).wf = true)) : ∃ k, laws_FnExactPiecesAfter.f k a0_0 a0_1 l1 = some true := by
  refine Ev.rounds (r := true) ?_
  unfold laws_FnExactPiecesAfter.f
  simp only [szBreakS_some l1 hm, toBar_some, Option.bind_some]
  by_cases hl : l1.length ≤ 1048576
  · simp only [if_pos hl, if_neg (show ¬ (1048576 - (l1.length : Int) < 0) by omega)]
    have ht := toBreakS_ev l1 hl
    have hlen : (l1.map toK).length ≤ 1048576 := by rw [List.length_map]; exact hl
    obtain ⟨r, s, hr, hs, h1, h2, h3, h4⟩ := after_both (l1.map toK) hlen a0_0 a0_1
    have hS : Ev (fun k => spec_PiecesAfter.f k a0_0 a0_1 (l1.map toK)) (r.1, r.2.2) := by
      unfold spec_PiecesAfter.f
      exact Ev.bind hr (Ev.now _)
    have hI : Ev (fun k => impl_PiecesAfter.f k a0_0 a0_1 (l1.map toK)) (r.1, r.2.2) := by
      unfold impl_PiecesAfter.f
      refine Ev.bind hs ?_
      rw [h1]
      cases hb : r.2.2 with
      | true =>
        simp only [if_true]
        rw [h2 hb]
        exact Ev.now _
      | false =>
        simp only [Bool.false_eq_true, if_false]
        rw [(h3 hb).1]
        exact Ev.now _
    have hrl : r.1.length ≤ 1048577 := by
      cases hb : r.2.2 with
      | true => rw [h4 hb]; omega
      | false => rw [(h3 hb).1]; simp
    have he := eqBarS_refl r.1 (by omega)
    obtain ⟨c, l', hc, hmk, hh⟩ := bars_held r.1 (by omega)
    obtain ⟨c2, l2, hc2, -, -, -, hmk2⟩ := markBreakS_ev (l1.map toK) (by omega)
    refine Ev.bind ht (Ev.bind hS (Ev.bind ht (Ev.bind hI (Ev.bind he ?_))))
    simp only [if_true, bne_self_eq_false]
    refine Ev.step (fun k => by simp only [laws_FnExactPiecesAfter.j0, Bool.false_eq_true, if_false]; rfl) ?_
    refine Ev.bind ht (Ev.bind (eqBreakS_refl _ (by omega)) ?_)
    simp only [if_true]
    refine Ev.bind hmk2 ?_
    simp only [if_neg (show ¬ c2 < 0 by omega)]
    refine Ev.bind he ?_
    simp only [if_true, bne_self_eq_false]
    refine Ev.step (fun k => by simp only [laws_FnExactPiecesAfter.j1, Bool.false_eq_true, if_false, toBar_some, Option.bind_some]; rfl) ?_
    refine Ev.bind hmk (Ev.bind hh ?_)
    simp only [if_neg (show ¬ c < 0 by omega), if_true]
    refine Ev.bind ht (Ev.bind hI (Ev.bind he ?_))
    simp only [if_true, bne_self_eq_false]
    refine Ev.step (fun k => by simp only [laws_FnExactPiecesAfter.j2, Bool.false_eq_true, if_false]; rfl) ?_
    refine Ev.bind hh ?_
    simp only [if_neg (show ¬ c < 0 by omega), if_true]
    exact Ev.now _
  · simp only [if_neg hl, if_pos (show (-1 : Int) < 0 by omega)]
    exact Ev.now _
end Go.Proofs.Ytocpeikkaciecaa.Pure
