/- RowNuts of the program answers as the reference's, for all lists of texts; its argument is not held, and what it hands back is memory of its own. -/
import Derived.Test.YthfmfeghipjpdaaDoorDSum
import Derived.Test.YthfmfeghipjpdaaDoorUIntEq
import Derived.Test.YthfmfeghipjpdaaDoorUMarks
import Derived.Test.YthfmfeghipjpdaaDoorUMarkS
import Derived.Test.YthfmfeghipjpdaaDoorPx56
namespace Go.Proofs.YthfmfeghipjpdaaDoor.Pure
open Go.RowKit Go.Proofs.YthfmfeghipjpdaaDoor.P Go.Proofs.YthfmfeghipjpdaaDoorW.PrintWords Go.Proofs.YthfmfeghipjpdaaDoorW.PrintLast
theorem rowNuts_l0 {l : List ByteArray} {w : Nat} (h : Nuts l w) (h0 : ((rdOf ByteArray.empty l 0).size : Int) = (w : Int)) : ∀ (d j : Nat) (o : List Int), j + d = l.length → o.length = j → ∃ r : List Int × Bool, r.1.length ≤ 8 ∧ Ev (fun k => spec_RowNuts.l0 k l o (l.length : Int) (j : Int)) r ∧ Ev (fun k => impl_RowNuts.l0 k l o (l.length : Int) (j : Int)) r := by
  have hl8 := h.rows8
  intro d
  induction d with
  | zero =>
    intro j o hj ho
    exact ⟨(o, true), by simp only; omega, Ev.step (f := fun _ => some (o, true)) (fun k => by simp only [spec_RowNuts.l0]; rw [if_neg (by omega)]) (Ev.now _), Ev.step (f := fun _ => some (o, true)) (fun k => by simp only [impl_RowNuts.l0]; rw [if_neg (by omega)]) (Ev.now _)⟩
  | succ d ih =>
    intro j o hj ho
    obtain ⟨r, hr, s1, s2⟩ := ih (j + 1) (o ++ [partSum l 0 w j 1]) (by omega) (by rw [List.length_append, List.length_singleton]; omega)
    have e1 : wrap64 ((j : Int) + 1) = ((j + 1 : Nat) : Int) := by rw [w64 (by omega) (by omega)]; rfl
    have a := ntSum_ev h 0 j w (j + 1) (Nat.zero_le _) (Nat.le_refl _) (by omega) (by omega)
    rw [Nat.sub_zero, show j + 1 - j = 1 by omega] at a
    have b := nutsIn_ev h 0 j w 1 (by omega) (by omega)
    simp only [Int.natCast_zero] at a b
    refine ⟨r, hr, ?_, ?_⟩
    · refine Ev.step (fun k => by simp only [spec_RowNuts.l0]; rfl) (ev_if_pos (by omega) (ev_if_pos (by omega) ?_))
      rw [h0, e1]
      exact Ev.bind a (ev_if_pos (by omega) s1)
    · refine Ev.step (fun k => by simp only [impl_RowNuts.l0]; rfl) (ev_if_pos (by omega) (ev_if_pos (by omega) ?_))
      rw [h0, e1]
      exact Ev.bind b (ev_if_pos (by omega) s2)
theorem rowNuts_both (l : List ByteArray) (hl : l.length ≤ 1048576) (hz : sizes l ≤ 1048576) : ∃ r : List Int × Bool, r.1.length ≤ 8 ∧ Ev (fun k => spec_RowNuts.f k l) r ∧ Ev (fun k => impl_RowNuts.f k l) r := by
  obtain ⟨b, hg, hi, hb⟩ := good_both l hl hz
  cases b with
  | false =>
    refine ⟨([], false), by simp, ?_, ?_⟩
    · unfold spec_RowNuts.f
      exact Ev.bind hg (ev_if_neg (by decide) (Ev.now _))
    · unfold impl_RowNuts.f
      exact ev_val hi (ev_if_neg (by decide) (Ev.now _))
  | true =>
    obtain ⟨w, h⟩ := hb rfl
    have hp := h.rows1
    have h0 : ((rdOf ByteArray.empty l 0).size : Int) = (w : Int) := by
      have := (h.row 0 (by omega)).1
      simp only [Int.natCast_zero] at this
      omega
    obtain ⟨r, hr, s1, s2⟩ := rowNuts_l0 h h0 l.length 0 [] (by omega) rfl
    refine ⟨r, hr, ?_, ?_⟩
    · unfold spec_RowNuts.f
      exact Ev.bind hg (ev_if_pos rfl s1)
    · unfold impl_RowNuts.f
      exact ev_val hi (ev_if_pos rfl s2)
theorem FnExactRowNuts (l0 : List ByteArray) (hm : l0.length ≤ maxLen) (_ : l0.length * 16 ≤ 140737488351232) (hs : (∀ s ∈ l0, s.size ≤ 140737488351232)) : ∃ k, laws_FnExactRowNuts.f k l0 = some true := by
  refine Ev.rounds (r := true) ?_
  unfold laws_FnExactRowNuts.f
  obtain ⟨t, ht, hz⟩ := sz_ev l0 hm hs
  refine Ev.bind ht ?_
  by_cases h0 : t < 0
  · simp only [if_pos h0]
    exact Ev.now _
  · simp only [if_neg h0]
    obtain ⟨hl, hz⟩ := hz (by omega)
    have hc := toStringS_ev l0 hl
    obtain ⟨r, hr, hS, hI⟩ := rowNuts_both l0 hl hz
    have he := eqIntS_refl r.1 (by omega)
    obtain ⟨c, l', hc0, hmk, hh⟩ := ints_held r.1 (by omega)
    obtain ⟨c2, l2, hc2, hmk2⟩ := markStringS_ev l0 (by omega)
    refine Ev.bind hc (Ev.bind hS (Ev.bind hc (Ev.bind hI (Ev.bind he ?_))))
    simp only [if_true, bne_self_eq_false]
    refine Ev.step (fun k => by simp only [laws_FnExactRowNuts.j0, Bool.false_eq_true, if_false]; rfl) ?_
    refine Ev.bind hc (Ev.bind (eqStringS_refl l0 (by omega)) ?_)
    simp only [if_true]
    refine Ev.bind hmk2 ?_
    simp only [if_neg (show ¬ c2 < 0 by omega)]
    refine Ev.bind he ?_
    simp only [if_true, bne_self_eq_false]
    refine Ev.step (fun k => by simp only [laws_FnExactRowNuts.j1, Bool.false_eq_true, if_false]; rfl) ?_
    refine Ev.bind hmk (Ev.bind hh ?_)
    simp only [if_neg (show ¬ c < 0 by omega), if_true]
    refine Ev.bind hc (Ev.bind hI (Ev.bind he ?_))
    simp only [if_true, bne_self_eq_false]
    refine Ev.step (fun k => by simp only [laws_FnExactRowNuts.j2, Bool.false_eq_true, if_false]; rfl) ?_
    refine Ev.bind hh ?_
    simp only [if_neg (show ¬ c < 0 by omega), if_true]
    exact Ev.now _
end Go.Proofs.YthfmfeghipjpdaaDoor.Pure
