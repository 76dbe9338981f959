/- ColumnNuts of the program answers as the reference's, for all lists of texts; its argument is not held, and what it hands back is memory of its own. -/
import Derived.Test.YthfmfeghipjpdaaDoorDSum
import Derived.Test.YthfmfeghipjpdaaDoorPx56
import Derived.Test.YthfmfeghipjpdaaDoorPx55
import Derived.Test.YthfmfeghipjpdaaDoorOCol
import Derived.Test.YthfmfeghipjpdaaDoorUIntEq
import Derived.Test.YthfmfeghipjpdaaDoorUMarks
import Derived.Test.YthfmfeghipjpdaaDoorUMarkS
import Derived.Test.YthfmfeghipjpdaaDoorPx57
namespace Go.Proofs.YthfmfeghipjpdaaDoor.Pure
open Go.RowKit Go.Proofs.YthfmfeghipjpdaaDoor.P Go.Proofs.YthfmfeghipjpdaaDoorW.PrintWords Go.Proofs.YthfmfeghipjpdaaDoorW.PrintLast
theorem nuts_ascii {l : List ByteArray} {w : Nat} (h : Nuts l w) (j : Nat) (hj : j < l.length) : asciiB (rdOf ByteArray.empty l (j : Int)) = true := by
  rw [rs_lt l j hj]
  have hs := h.wide l[j] (List.getElem_mem hj)
  have w8 := h.wide8
  unfold asciiB
  rw [Bool.and_eq_true, decide_eq_true_eq, List.all_eq_true]
  refine ⟨by omega, fun b hb => ?_⟩
  have := h.digit l[j] (List.getElem_mem hj) b hb
  rw [decide_eq_true_eq]
  omega
theorem colNuts_l0 {l : List ByteArray} {w : Nat} (h : Nuts l w) : ∀ (d j : Nat) (o : List Int), j + d = w → o.length = j → ∃ r : List Int, r.length ≤ 8 ∧ Ev (fun k => spec_ColumnNuts.l0 k l o (w : Int) (j : Int)) (r, true) ∧ Ev (fun k => impl_columnNuts.l0 k l o (w : Int) (j : Int)) r := by
  have hl8 := h.rows8
  have w8 := h.wide8
  intro d
  induction d with
  | zero =>
    intro j o hj ho
    exact ⟨o, by omega, Ev.step (f := fun _ => some (o, true)) (fun k => by simp only [spec_ColumnNuts.l0]; rw [if_neg (by omega)]) (Ev.now _), Ev.step (f := fun _ => some o) (fun k => by simp only [impl_columnNuts.l0]; rw [if_neg (by omega)]) (Ev.now _)⟩
  | succ d ih =>
    intro j o hj ho
    obtain ⟨r, hr, s1, s2⟩ := ih (j + 1) (o ++ [partSum l j 1 0 l.length]) (by omega) (by rw [List.length_append, List.length_singleton]; omega)
    have e1 : wrap64 ((j : Int) + 1) = ((j + 1 : Nat) : Int) := by rw [w64 (by omega) (by omega)]; rfl
    have a := ntSum_ev h j 0 (j + 1) l.length (by omega) (by omega) (Nat.zero_le _) (Nat.le_refl _)
    rw [Nat.sub_zero, show j + 1 - j = 1 by omega] at a
    have b := nutsIn_ev h j 0 1 l.length (by omega) (by omega)
    simp only [Int.natCast_zero] at a b
    refine ⟨r, hr, ?_, ?_⟩
    · refine Ev.step (fun k => by simp only [spec_ColumnNuts.l0]; rfl) (ev_if_pos (by omega) ?_)
      rw [e1]
      exact Ev.bind a (ev_if_pos (by omega) s1)
    · refine Ev.step (fun k => by simp only [impl_columnNuts.l0]; rfl) (ev_if_pos (by omega) ?_)
      rw [e1]
      exact Ev.bind b (ev_if_pos (by omega) s2)
theorem colNuts_both (l : List ByteArray) (hl : l.length ≤ 1048576) (hz : sizes l ≤ 1048576) : ∃ r : List Int × Bool, r.1.length ≤ 8 ∧ Ev (fun k => spec_ColumnNuts.f k l) r ∧ Ev (fun k => impl_ColumnNuts.f k l) r := by
  obtain ⟨b, hg, hi, hb⟩ := good_both l hl hz
  cases b with
  | false =>
    refine ⟨([], false), by simp, ?_, ?_⟩
    · unfold spec_ColumnNuts.f
      exact Ev.bind hg (ev_if_neg (by decide) (Ev.now _))
    · unfold impl_ColumnNuts.f
      exact ev_val hi (ev_if_neg (by decide) (Ev.now _))
  | true =>
    obtain ⟨w, h⟩ := hb rfl
    have hp := h.rows1
    have ha := nuts_ascii h 0 (by omega)
    have h0 : ((rdOf ByteArray.empty l 0).size : Int) = (w : Int) := by
      have := (h.row 0 (by omega)).1
      simp only [Int.natCast_zero] at this
      omega
    simp only [Int.natCast_zero] at ha
    obtain ⟨r, hr, s1, s2⟩ := colNuts_l0 h w 0 [] (by omega) rfl
    refine ⟨(r, true), hr, ?_, ?_⟩
    · unfold spec_ColumnNuts.f
      refine Ev.bind hg (ev_if_pos rfl (ev_if_pos (by omega) (ev_if_pos ha ?_)))
      rw [h0]
      exact s1
    · unfold impl_ColumnNuts.f
      refine ev_val hi (ev_if_pos rfl (Ev.bind (a := r) ?_ (Ev.now _)))
      unfold impl_columnNuts.f
      refine ev_if_pos (by omega) ?_
      rw [h0]
      exact s2
theorem FnExactColumnNuts (l0 : List ByteArray) (hm : l0.length ≤ maxLen) (_ : l0.length * 16 ≤ 140737488351232) (hs : (∀ s ∈ l0, s.size ≤ 140737488351232)) : ∃ k, laws_FnExactColumnNuts.f k l0 = some true := by
  refine Ev.rounds (r := true) ?_
  unfold laws_FnExactColumnNuts.f
  obtain ⟨t, ht, hz⟩ := sz_ev l0 hm hs
  refine Ev.bind ht ?_
  by_cases h0 : t < 0
  · simp only [if_pos h0]
    exact Ev.now _
  · simp only [if_neg h0]
    obtain ⟨hl, hz⟩ := hz (by omega)
    have hc := toStringS_ev l0 hl
    obtain ⟨r, hr, hS, hI⟩ := colNuts_both l0 hl hz
    have he := eqIntS_refl r.1 (by omega)
    obtain ⟨c, l', hc0, hmk, hh⟩ := ints_held r.1 (by omega)
    obtain ⟨c2, l2, hc2, hmk2⟩ := markStringS_ev l0 (by omega)
    refine Ev.bind hc (Ev.bind hS (Ev.bind hc (Ev.bind hI (Ev.bind he ?_))))
    simp only [if_true, bne_self_eq_false]
    refine Ev.step (fun k => by simp only [laws_FnExactColumnNuts.j0, Bool.false_eq_true, if_false]; rfl) ?_
    refine Ev.bind hc (Ev.bind (eqStringS_refl l0 (by omega)) ?_)
    simp only [if_true]
    refine Ev.bind hmk2 ?_
    simp only [if_neg (show ¬ c2 < 0 by omega)]
    refine Ev.bind he ?_
    simp only [if_true, bne_self_eq_false]
    refine Ev.step (fun k => by simp only [laws_FnExactColumnNuts.j1, Bool.false_eq_true, if_false]; rfl) ?_
    refine Ev.bind hmk (Ev.bind hh ?_)
    simp only [if_neg (show ¬ c < 0 by omega), if_true]
    refine Ev.bind hc (Ev.bind hI (Ev.bind he ?_))
    simp only [if_true, bne_self_eq_false]
    refine Ev.step (fun k => by simp only [laws_FnExactColumnNuts.j2, Bool.false_eq_true, if_false]; rfl) ?_
    refine Ev.bind hh ?_
    simp only [if_neg (show ¬ c < 0 by omega), if_true]
    exact Ev.now _
end Go.Proofs.YthfmfeghipjpdaaDoor.Pure
