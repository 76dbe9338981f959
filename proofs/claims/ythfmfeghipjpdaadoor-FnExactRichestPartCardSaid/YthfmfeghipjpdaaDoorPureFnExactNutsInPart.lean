/- NutsInPart of the program answers as the reference's, for all lists of texts, places and sizes. -/
import Derived.Test.YthfmfeghipjpdaaDoorDSum
import Derived.Test.YthfmfeghipjpdaaDoorUBar
import Derived.Test.YthfmfeghipjpdaaDoorPx25
namespace Go.Proofs.YthfmfeghipjpdaaDoor.Pure
open Go.RowKit Go.Proofs.YthfmfeghipjpdaaDoor.P Go.Proofs.YthfmfeghipjpdaaDoorW.PrintWords Go.Proofs.YthfmfeghipjpdaaDoorW.PrintLast
theorem nsum_at {l : List ByteArray} {w : Nat} (h : Nuts l w) (x y W H : Nat) (hx : x + W ≤ w) (hy : y + H ≤ l.length) : Ev (fun k => spec_ntSum.f k l (x : Int) (y : Int) ((x + W : Nat) : Int) ((y + H : Nat) : Int)) (partSum l x W y H) := by
  have s := ntSum_ev h x y (x + W) (y + H) (by omega) hx (by omega) hy
  rwa [show x + W - x = W by omega, show y + H - y = H by omega] at s
theorem nutsInPart_both (l : List ByteArray) (hl : l.length ≤ 1048576) (hz : sizes l ≤ 1048576) (x y W H : Int) : ∃ r, Ev (fun k => spec_NutsInPart.f k l x y W H) r ∧ Ev (fun k => impl_NutsInPart.f k l x y W H) r := by
  obtain ⟨b, hg, hi, hb⟩ := good_both l hl hz
  cases b with
  | false =>
    refine ⟨(0, false), ?_, ?_⟩
    · unfold spec_NutsInPart.f
      refine Ev.bind hg ?_
      simp only [Bool.false_eq_true, if_false]
      exact Ev.now _
    · unfold impl_NutsInPart.f
      simp only [hi, Option.bind_some, Bool.false_eq_true, if_false]
      exact Ev.now _
  | true =>
    obtain ⟨w, h⟩ := hb rfl
    have hp := h.rows1
    have h8 := h.rows8
    have w8 := h.wide8
    have h0 : ((rdOf ByteArray.empty l 0).size : Int) = (w : Int) := by
      have := (h.row 0 (by omega)).1
      simp only [Int.natCast_zero] at this
      omega
    cases hB : goodB W H with
    | false =>
      have hin : impl_isInside.f l x y W H = some false := by
        unfold impl_isInside.f
        rw [isBar_some, hB]
        rfl
      refine ⟨(0, false), ?_, ?_⟩
      · unfold spec_NutsInPart.f
        exact Ev.bind hg (ev_if_pos rfl (ev_val (brGood_some W H) (by rw [hB]; exact ev_if_neg (by decide) (Ev.now _))))
      · unfold impl_NutsInPart.f
        exact ev_val hi (ev_if_pos rfl (ev_val hin (ev_if_neg (by decide) (Ev.now _))))
    | true =>
      obtain ⟨b1, b2, b3, b4⟩ := goodB_true hB
      have e1 : wrap64 ((w : Int) - W) = (w : Int) - W := w64 (by omega) (by omega)
      have e2 : wrap64 ((l.length : Int) - H) = (l.length : Int) - H := w64 (by omega) (by omega)
      have hin : impl_isInside.f l x y W H = some (decide (0 ≤ x ∧ x ≤ (w : Int) - W) && decide (0 ≤ y ∧ y ≤ (l.length : Int) - H)) := by
        unfold impl_isInside.f
        rw [isBar_some, hB, h0, e1, e2, within_some, within_some]
        simp only [Option.bind_some, if_true]
        rw [if_pos (by omega)]
        cases decide (0 ≤ x ∧ x ≤ (w : Int) - W) <;> rfl
      have hsp : ∀ r, Ev (fun k => if decide (0 ≤ x ∧ x ≤ (w : Int) - W) = true then ((spec_l1In.f y 0 (wrap64 ((l.length : Int) - H))).bind fun t167 => (if t167 = true then ((spec_ntSum.f k l x y (wrap64 (x + W)) (wrap64 (y + H))).bind fun t168 => (some (t168, true))) else (some (0, false)))) else (some (0, false))) r → Ev (fun k => spec_NutsInPart.f k l x y W H) r := by
        intro r hr
        unfold spec_NutsInPart.f
        refine Ev.bind hg (ev_if_pos rfl (ev_val (brGood_some W H) ?_))
        rw [hB]
        refine ev_if_pos rfl (ev_if_pos (by omega) ?_)
        rw [h0, e1]
        exact ev_val (l1In_some _ _ _) hr
      by_cases c1 : 0 ≤ x ∧ x ≤ (w : Int) - W
      · by_cases c2 : 0 ≤ y ∧ y ≤ (l.length : Int) - H
        · obtain ⟨xn, rfl⟩ : ∃ n : Nat, x = (n : Int) := ⟨x.toNat, by omega⟩
          obtain ⟨yn, rfl⟩ : ∃ n : Nat, y = (n : Int) := ⟨y.toNat, by omega⟩
          obtain ⟨Wn, rfl⟩ : ∃ n : Nat, W = (n : Int) := ⟨W.toNat, by omega⟩
          obtain ⟨Hn, rfl⟩ : ∃ n : Nat, H = (n : Int) := ⟨H.toNat, by omega⟩
          have s := nsum_at h xn yn Wn Hn (by clear e1 e2 hin hsp; omega) (by clear e1 e2 hin hsp; omega)
          have s2 := nutsIn_ev h xn yn Wn Hn (by clear e1 e2 hin hsp; omega) (by clear e1 e2 hin hsp; omega)
          have e3 : wrap64 ((xn : Int) + (Wn : Int)) = ((xn + Wn : Nat) : Int) := by clear e1 e2 hin hsp; rw [w64 (by omega) (by omega)]; omega
          have e4 : wrap64 ((yn : Int) + (Hn : Int)) = ((yn + Hn : Nat) : Int) := by clear e1 e2 e3 hin hsp; rw [w64 (by omega) (by omega)]; omega
          refine ⟨(partSum l xn Wn yn Hn, true), hsp _ ?_, ?_⟩
          · refine ev_if_pos (decide_eq_true c1) ?_
            rw [e2, e3, e4]
            exact ev_val (l1In_some _ _ _) (ev_if_pos (decide_eq_true c2) (Ev.bind s (Ev.now _)))
          · rw [decide_eq_true c1, decide_eq_true c2] at hin
            unfold impl_NutsInPart.f
            exact ev_val hi (ev_if_pos rfl (ev_val hin (ev_if_pos rfl (Ev.bind s2 (Ev.now _)))))
        · refine ⟨(0, false), hsp _ ?_, ?_⟩
          · refine ev_if_pos (decide_eq_true c1) ?_
            rw [e2]
            exact ev_val (l1In_some _ _ _) (ev_if_neg (by simpa using c2) (Ev.now _))
          · rw [decide_eq_false c2, Bool.and_false] at hin
            unfold impl_NutsInPart.f
            exact ev_val hi (ev_if_pos rfl (ev_val hin (ev_if_neg (by decide) (Ev.now _))))
      · refine ⟨(0, false), hsp _ (ev_if_neg (by simpa using c1) (Ev.now _)), ?_⟩
        rw [decide_eq_false c1, Bool.false_and] at hin
        unfold impl_NutsInPart.f
        exact ev_val hi (ev_if_pos rfl (ev_val hin (ev_if_neg (by decide) (Ev.now _))))
theorem FnExactNutsInPart (l0 : List ByteArray) (hm : l0.length ≤ maxLen) (_ : l0.length * 16 ≤ 140737488351232) (hs : (∀ s ∈ l0, s.size ≤ 140737488351232)) (a1 : Int) (_ : (Lit.int .i64 a1).wf = true) (a2 : Int) (_ : (Lit.int .i64 a2).wf = true) (a3_0 : Int) (a3_1 : Int) (_ : (Lit.int .i64 a3_0).wf = true) (_ : (Lit.int .i64 a3_1).wf = true) : ∃ k, laws_FnExactNutsInPart.f k l0 a1 a2 a3_0 a3_1 = some true := by
  refine Ev.rounds (r := true) ?_
  unfold laws_FnExactNutsInPart.f
  obtain ⟨t, ht, hz⟩ := sz_ev l0 hm hs
  refine Ev.bind ht ?_
  by_cases h0 : t < 0
  · simp only [if_pos h0]
    exact Ev.now _
  · simp only [if_neg h0]
    obtain ⟨hl, hz⟩ := hz (by omega)
    have hc := toStringS_ev l0 hl
    obtain ⟨r, hS, hI⟩ := nutsInPart_both l0 hl hz a1 a2 a3_0 a3_1
    simp only [toBar_some, Option.bind_some]
    refine Ev.bind hc (Ev.bind hS (Ev.bind hc (Ev.bind hI ?_)))
    simp only [if_true, bne_self_eq_false]
    refine Ev.step (fun k => by simp only [laws_FnExactNutsInPart.j0, Bool.false_eq_true, if_false]; rfl) ?_
    refine Ev.bind hc (Ev.bind (eqStringS_refl l0 (by omega)) ?_)
    simp only [if_true]
    exact Ev.now _
end Go.Proofs.YthfmfeghipjpdaaDoor.Pure
