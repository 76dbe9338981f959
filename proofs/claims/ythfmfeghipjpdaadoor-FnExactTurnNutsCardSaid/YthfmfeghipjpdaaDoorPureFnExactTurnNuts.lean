/- TurnNuts of the program answers as the reference's, for all lists of texts; its argument is not held, and what it hands back is memory of its own. -/
import Derived.Test.YthfmfeghipjpdaaDoorDTurn
import Derived.Test.YthfmfeghipjpdaaDoorUHeldS
import Derived.Test.YthfmfeghipjpdaaDoorPx41
namespace Go.Proofs.YthfmfeghipjpdaaDoor.Pure
open Go.RowKit Go.Proofs.YthfmfeghipjpdaaDoor.P Go.Proofs.YthfmfeghipjpdaaDoorW.PrintWords Go.Proofs.YthfmfeghipjpdaaDoorW.PrintLast
theorem turn_both (l : List ByteArray) (hl : l.length ≤ 1048576) (hz : sizes l ≤ 1048576) : ∃ r : List ByteArray × Bool, r.1.length ≤ 8 ∧ Ev (fun k => spec_TurnNuts.f k l) r ∧ impl_TurnNuts.f l = some r := by
  obtain ⟨b, hg, hi, hb⟩ := good_both l hl hz
  unfold impl_TurnNuts.f
  rw [hi, Option.bind_some]
  cases b with
  | false =>
    refine ⟨([], false), by simp, ?_, rfl⟩
    unfold spec_TurnNuts.f
    exact Ev.bind hg (ev_if_neg (by decide) (Ev.now _))
  | true =>
    obtain ⟨w, h⟩ := hb rfl
    refine ⟨(turnB l w, true), by have := h.wide8; simp [turnB]; omega, ?_, ?_⟩
    · unfold spec_TurnNuts.f
      exact Ev.bind hg (ev_if_pos rfl (Ev.bind (spec_turn_ev h) (Ev.now _)))
    · rw [if_pos rfl, impl_turn_some h]
      rfl
theorem FnExactTurnNuts (l0 : List ByteArray) (hm : l0.length ≤ maxLen) (_ : l0.length * 16 ≤ 140737488351232) (hs : (∀ s ∈ l0, s.size ≤ 140737488351232)) : ∃ k, laws_FnExactTurnNuts.f k l0 = some true := by
  refine Ev.rounds (r := true) ?_
  unfold laws_FnExactTurnNuts.f
  obtain ⟨t, ht, hz⟩ := sz_ev l0 hm hs
  refine Ev.bind ht ?_
  by_cases h0 : t < 0
  · simp only [if_pos h0]
    exact Ev.now _
  · simp only [if_neg h0]
    obtain ⟨hl, hz⟩ := hz (by omega)
    have hc := toStringS_ev l0 hl
    obtain ⟨r, hr, hS, hI⟩ := turn_both l0 hl hz
    have he := eqStringS_refl r.1 (by omega)
    obtain ⟨c, l', hc0, hmk, hh⟩ := strs_held r.1 (by omega)
    obtain ⟨c2, l2, hc2, hmk2⟩ := markStringS_ev l0 (by omega)
    refine Ev.bind hc (Ev.bind hS (Ev.bind hc (ev_val hI (Ev.bind he ?_))))
    simp only [if_true, bne_self_eq_false]
    refine Ev.step (fun k => by simp only [laws_FnExactTurnNuts.j0, Bool.false_eq_true, if_false]; rfl) ?_
    refine Ev.bind hc (Ev.bind (eqStringS_refl l0 (by omega)) ?_)
    simp only [if_true]
    refine Ev.bind hmk2 ?_
    simp only [if_neg (show ¬ c2 < 0 by omega)]
    refine Ev.bind he ?_
    simp only [if_true, bne_self_eq_false]
    refine Ev.step (fun k => by simp only [laws_FnExactTurnNuts.j1, Bool.false_eq_true, if_false]; rfl) ?_
    refine Ev.bind hmk (Ev.bind hh ?_)
    simp only [if_neg (show ¬ c < 0 by omega), if_true]
    refine Ev.bind hc (ev_val hI (Ev.bind he ?_))
    simp only [if_true, bne_self_eq_false]
    refine Ev.step (fun k => by simp only [laws_FnExactTurnNuts.j2, Bool.false_eq_true, if_false]; rfl) ?_
    refine Ev.bind hh ?_
    simp only [if_neg (show ¬ c < 0 by omega), if_true]
    exact Ev.now _
end Go.Proofs.YthfmfeghipjpdaaDoor.Pure
