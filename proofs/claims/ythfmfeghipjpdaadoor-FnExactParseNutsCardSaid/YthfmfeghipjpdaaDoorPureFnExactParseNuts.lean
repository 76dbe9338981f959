/- ParseNuts of the program answers as the reference's, for all texts; what it hands back is memory of its own. -/
import Derived.Test.YthfmfeghipjpdaaDoorDParse
import Derived.Test.YthfmfeghipjpdaaDoorUHeldS
import Derived.Test.YthfmfeghipjpdaaDoorOLawParse
namespace Go.Proofs.YthfmfeghipjpdaaDoor.Pure
open Go.RowKit Go.Proofs.YthfmfeghipjpdaaDoor.P Go.Proofs.YthfmfeghipjpdaaDoorW.PrintWords Go.Proofs.YthfmfeghipjpdaaDoorW.PrintLast
theorem parse_both (s : ByteArray) (hs : s.size ≤ 1048576) : ∃ r : List ByteArray × Bool, r.1.length ≤ 1000 ∧ Ev (fun k => spec_ParseNuts.f k s) r ∧ impl_ParseNuts.f s = some r := by
  have hz := pieces_sizes s.size s (Nat.le_refl _)
  have hp := pieces_len s
  obtain ⟨b, hg, hi, hb⟩ : ∃ b : Bool, (s.size ≤ 71 → Ev (fun k => spec_ntGood.f k (pieces s)) b) ∧ impl_AreNuts.f (pieces s) = some b ∧ (b = true → ∃ w, Nuts (pieces s) w) := by
    by_cases hl : (pieces s).length ≤ 1048576
    · obtain ⟨b, hg, hi, hb⟩ := good_both (pieces s) hl (by omega)
      exact ⟨b, fun _ => hg, hi, hb⟩
    · refine ⟨false, fun h => by omega, ?_, fun h => by cases h⟩
      unfold impl_AreNuts.f
      rw [if_pos (List.all_eq_true.2 fun x hx => decide_eq_true (by have := size_le_sizes _ x hx; omega))]
      unfold nutsB
      rw [decide_eq_false (by omega), Bool.false_and]
  have hS : ∀ r, Ev (fun k => spec_ntParse.f k s) r → Ev (fun k => spec_ParseNuts.f k s) r := fun r h => by
    unfold spec_ParseNuts.f
    exact Ev.bind h (Ev.now _)
  have hI : impl_ParseNuts.f s = some (if b = true then (pieces s, true) else ([], false)) := by
    unfold impl_ParseNuts.f
    rw [if_pos (by omega), hi]
    cases b <;> rfl
  by_cases h71 : (s.size : Int) > 71
  · have hbf : b = false := by
      cases b with
      | false => rfl
      | true =>
        obtain ⟨w, h⟩ := hb rfl
        have := sizes_le (pieces s) (fun x hx => by have a := h.wide x hx; have c := h.wide8; omega)
        have := h.rows8
        omega
    subst hbf
    refine ⟨([], false), by simp, hS _ ?_, hI⟩
    unfold spec_ntParse.f
    exact ev_if_pos h71 (Ev.now _)
  · refine ⟨if b = true then (pieces s, true) else ([], false), by cases b <;> simp; omega, hS _ ?_, hI⟩
    unfold spec_ntParse.f
    refine ev_if_neg h71 (Ev.bind (split_ev s (by omega)) (Ev.bind (hg (by omega)) ?_))
    cases b <;> exact Ev.now _
theorem FnExactParseNuts (a0 : ByteArray) (_ : a0.size ≤ 140737488351232) : ∃ k, laws_FnExactParseNuts.f k a0 = some true := by
  by_cases hl : a0.size ≤ 1048576
  · obtain ⟨r, hr, hS, hI⟩ := parse_both a0 hl
    have he := eqStringS_refl r.1 (by omega)
    obtain ⟨c, l', hc, hm, hh⟩ := strs_held r.1 (by omega)
    obtain ⟨K1, h1⟩ := hS
    obtain ⟨K2, h2⟩ := he
    obtain ⟨K3, h3⟩ := hm
    obtain ⟨K4, h4⟩ := hh
    exact laws_FnExactParseNuts.rounds a0 r.1 r.2 c l' ⟨K1 + K2 + K3 + K4, ⟨h1 _ (by omega), hI, h2 _ (by omega), h3 _ (by omega), h4 _ (by omega), by omega⟩⟩
  · refine ⟨0, ?_⟩
    unfold laws_FnExactParseNuts.f
    rw [if_pos (by omega)]
end Go.Proofs.YthfmfeghipjpdaaDoor.Pure
