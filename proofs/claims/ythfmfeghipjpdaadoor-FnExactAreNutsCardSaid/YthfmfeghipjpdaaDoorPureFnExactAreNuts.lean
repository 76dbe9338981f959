/- AreNuts of the program answers as the reference's, for all lists of texts. -/
import Derived.Test.YthfmfeghipjpdaaDoorDNuts
import Derived.Test.YthfmfeghipjpdaaDoorPx11
namespace Go.Proofs.YthfmfeghipjpdaaDoor.Pure
open Go.RowKit Go.Proofs.YthfmfeghipjpdaaDoor.P Go.Proofs.YthfmfeghipjpdaaDoorW.PrintWords Go.Proofs.YthfmfeghipjpdaaDoorW.PrintLast
theorem FnExactAreNuts (l0 : List ByteArray) (hm : l0.length ≤ maxLen) (_ : l0.length * 16 ≤ 140737488351232) (hs : (∀ s ∈ l0, s.size ≤ 140737488351232)) : ∃ k, laws_FnExactAreNuts.f k l0 = some true := by
  refine Ev.rounds (r := true) ?_
  unfold laws_FnExactAreNuts.f
  obtain ⟨t, ht, hz⟩ := sz_ev l0 hm hs
  refine Ev.bind ht ?_
  by_cases h0 : t < 0
  · simp only [if_pos h0]
    exact Ev.now _
  · simp only [if_neg h0]
    obtain ⟨hl, hz⟩ := hz (by omega)
    have hc := toStringS_ev l0 hl
    obtain ⟨b, hg, hi, -⟩ := good_both l0 hl hz
    have hS : Ev (fun k => spec_AreNuts.f k l0) b := by
      unfold spec_AreNuts.f
      exact Ev.bind hg (Ev.now _)
    refine Ev.bind hc (Ev.bind hS (Ev.bind hc ?_))
    simp only [hi, Option.bind_some, bne_self_eq_false, Bool.false_eq_true, if_false]
    refine Ev.bind hc (Ev.bind (eqStringS_refl l0 (by omega)) ?_)
    simp only [if_true]
    exact Ev.now _
end Go.Proofs.YthfmfeghipjpdaaDoor.Pure
