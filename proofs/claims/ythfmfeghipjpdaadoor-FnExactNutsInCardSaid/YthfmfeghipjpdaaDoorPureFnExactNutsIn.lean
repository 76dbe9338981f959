/- NutsIn of the program answers as the reference's, for all lists of texts. -/
import Derived.Test.YthfmfeghipjpdaaDoorDSum
import Derived.Test.YthfmfeghipjpdaaDoorPx18
namespace Go.Proofs.YthfmfeghipjpdaaDoor.Pure
open Go.RowKit Go.Proofs.YthfmfeghipjpdaaDoor.P Go.Proofs.YthfmfeghipjpdaaDoorW.PrintWords Go.Proofs.YthfmfeghipjpdaaDoorW.PrintLast
theorem nutsIn_both (l : List ByteArray) (hl : l.length ≤ 1048576) (hz : sizes l ≤ 1048576) : ∃ r, Ev (fun k => spec_NutsIn.f k l) r ∧ Ev (fun k => impl_NutsIn.f k l) r := by
  obtain ⟨b, hg, hi, hb⟩ := good_both l hl hz
  cases b with
  | false =>
    refine ⟨(0, false), ?_, ?_⟩
    · unfold spec_NutsIn.f
      refine Ev.bind hg ?_
      simp only [Bool.false_eq_true, if_false]
      exact Ev.now _
    · unfold impl_NutsIn.f
      simp only [hi, Option.bind_some, Bool.false_eq_true, if_false]
      exact Ev.now _
  | true =>
    obtain ⟨w, h⟩ := hb rfl
    have hp := h.rows1
    have h0 : ((rdOf ByteArray.empty l 0).size : Int) = (w : Int) := by
      have := (h.row 0 (by omega)).1
      simp only [Int.natCast_zero] at this
      omega
    refine ⟨(partSum l 0 w 0 l.length, true), ?_, ?_⟩
    · unfold spec_NutsIn.f
      have s := ntSum_ev h 0 0 w l.length (Nat.zero_le _) (Nat.le_refl _) (Nat.zero_le _) (Nat.le_refl _)
      rw [Nat.sub_zero, Nat.sub_zero] at s
      simp only [Int.natCast_zero] at s
      have sa : Ev (fun k => spec_ntAll.f k l) (partSum l 0 w 0 l.length) := by
        unfold spec_ntAll.f
        rw [h0]
        exact ev_if_pos (by omega) (Ev.bind s (Ev.now _))
      exact Ev.bind hg (ev_if_pos rfl (Ev.bind sa (Ev.now _)))
    · have hw : impl_whole.f l = some (0, 0, (w : Int), (l.length : Int)) := by
        unfold impl_whole.f
        rw [if_pos (by omega), h0]
      have s := nutsIn_ev h 0 0 w l.length (by omega) (by omega)
      simp only [Int.natCast_zero] at s
      unfold impl_NutsIn.f
      exact ev_val hi (ev_if_pos rfl (ev_val hw (Ev.bind s (Ev.now _))))
theorem FnExactNutsIn (l0 : List ByteArray) (hm : l0.length ≤ maxLen) (_ : l0.length * 16 ≤ 140737488351232) (hs : (∀ s ∈ l0, s.size ≤ 140737488351232)) : ∃ k, laws_FnExactNutsIn.f k l0 = some true := by
  refine Ev.rounds (r := true) ?_
  unfold laws_FnExactNutsIn.f
  obtain ⟨t, ht, hz⟩ := sz_ev l0 hm hs
  refine Ev.bind ht ?_
  by_cases h0 : t < 0
  · simp only [if_pos h0]
    exact Ev.now _
  · simp only [if_neg h0]
    obtain ⟨hl, hz⟩ := hz (by omega)
    have hc := toStringS_ev l0 hl
    obtain ⟨r, hS, hI⟩ := nutsIn_both l0 hl hz
    refine Ev.bind hc (Ev.bind hS (Ev.bind hc (Ev.bind hI ?_)))
    simp only [if_true, bne_self_eq_false]
    refine Ev.step (fun k => by simp only [laws_FnExactNutsIn.j0, Bool.false_eq_true, if_false]; rfl) ?_
    refine Ev.bind hc (Ev.bind (eqStringS_refl l0 (by omega)) ?_)
    simp only [if_true]
    exact Ev.now _
end Go.Proofs.YthfmfeghipjpdaaDoor.Pure
