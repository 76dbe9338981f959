/- SameNuts of the program answers as the reference's, for all pairs of lists of texts; its arguments stay. -/
import Derived.Test.YthfmfeghipjpdaaDoorDSame
import Derived.Test.YthfmfeghipjpdaaDoorPx46
namespace Go.Proofs.YthfmfeghipjpdaaDoor.Pure
open Go.RowKit Go.Proofs.YthfmfeghipjpdaaDoor.P Go.Proofs.YthfmfeghipjpdaaDoorW.PrintWords Go.Proofs.YthfmfeghipjpdaaDoorW.PrintLast
theorem szc_l0 (l : List ByteArray) (hm : l.length ≤ 1048576) (hs : ∀ s ∈ l, s.size ≤ 140737488351232) : ∀ (d i : Nat) (c : Int), i + d = l.length → 0 ≤ c → c ≤ 1048576 → ∃ t, t ≤ c ∧ Ev (fun k => laws_szStringS.l0 k l c (i : Int)) t ∧ (0 ≤ t → (sizes (l.drop i) : Int) ≤ c) := by
  intro d
  induction d with
  | zero =>
    intro i c hi hc0 hc
    refine ⟨c, Int.le_refl _, Ev.step (f := fun _ => some c) (fun k => by simp only [laws_szStringS.l0]; rw [if_neg (by omega)]) (Ev.now _), fun _ => ?_⟩
    rw [List.drop_of_length_le (by omega)]
    simp [sizes]
    exact hc0
  | succ d ih =>
    intro i c hi hc0 hc
    have hlt : i < l.length := by omega
    have hsi := hs l[i] (List.getElem_mem hlt)
    have w1 : wrap64 (c - (l[i].size : Int)) = c - (l[i].size : Int) := w64 (by omega) (by omega)
    by_cases h : c - (l[i].size : Int) < 0
    · refine ⟨-1, by omega, Ev.step (f := fun _ => some (-1)) (fun k => ?_) (Ev.now _), fun h => by omega⟩
      simp only [laws_szStringS.l0, rs_lt l i hlt, w1]
      rw [if_pos (by omega), if_pos (by omega), if_pos h]
    · obtain ⟨t, hle, s, ht⟩ := ih (i + 1) (c - (l[i].size : Int)) (by omega) (by omega) (by omega)
      refine ⟨t, by omega, Ev.step (fun k => ?_) s, fun h0 => ?_⟩
      · simp only [laws_szStringS.l0, rs_lt l i hlt, w1]
        rw [if_pos (by omega), if_pos (by omega), if_neg h, w64 (x := (i : Int) + 1) (by omega) (by omega)]
        rfl
      · have := ht h0
        rw [List.drop_eq_getElem_cons hlt]
        have e : sizes (l[i] :: l.drop (i + 1)) = l[i].size + sizes (l.drop (i + 1)) := rfl
        rw [e]
        omega
theorem szc_ev (l : List ByteArray) (hm : l.length ≤ maxLen) (hs : ∀ s ∈ l, s.size ≤ 140737488351232) (c : Int) (hc0 : 0 ≤ c) (hc : c ≤ 1048576) : ∃ t, t ≤ 1048576 ∧ Ev (fun k => laws_szStringS.f k l c) t ∧ (0 ≤ t → l.length ≤ 1048576 ∧ sizes l ≤ 1048576) := by
  unfold maxLen at hm
  have w1 : wrap64 (c - (l.length : Int)) = c - (l.length : Int) := w64 (by omega) (by omega)
  unfold laws_szStringS.f
  simp only [w1]
  by_cases h : c - (l.length : Int) < 0
  · refine ⟨-1, by omega, ?_, fun h => by omega⟩
    simp only [if_pos h]
    exact Ev.now _
  · obtain ⟨t, hle, s, ht⟩ := szc_l0 l (by omega) hs l.length 0 (c - (l.length : Int)) (by omega) (by omega) (by omega)
    refine ⟨t, by omega, ?_, fun h0 => ⟨by omega, ?_⟩⟩
    · simp only [if_neg h]
      exact s
    · have := ht h0
      rw [List.drop_zero] at this
      omega
def anyT (b : List ByteArray) : Nat → List ByteArray → Nat → Bool
  | 0, _, _ => false
  | d + 1, l, w => decide (turnB l w = b) || anyT b d (turnB l w) l.length
def anyI (b : List ByteArray) : Nat → List ByteArray → Nat → Bool
  | 0, _, _ => false
  | d + 1, l, w => decide (l = b) || anyI b d (turnB l w) l.length
theorem turn_rows (l : List ByteArray) (w : Nat) : (turnB l w).length = w := by simp [turnB]
theorem any_same {l : List ByteArray} {w : Nat} (h : Nuts l w) (b : List ByteArray) : anyT b 4 l w = anyI b 4 l w := by
  have e := turn_four h
  simp only [anyT, anyI, turn_rows, e]
  cases decide (turnB l w = b) <;> cases decide (turnB (turnB l w) l.length = b) <;> cases decide (turnB (turnB (turnB l w) l.length) w = b) <;> cases decide (l = b) <;> rfl
theorem spec_loop (b : List ByteArray) : ∀ (d i : Nat) (l : List ByteArray) (w : Nat) (q : Bool), i + d = 4 → Nuts l w → Ev (fun k => spec_SameNuts.l0 k l b q (i : Int)) (q || anyT b d l w, true) := by
  intro d
  induction d with
  | zero =>
    intro i l w q hi h
    refine Ev.step (f := fun _ => some (q, true)) (fun k => by simp only [spec_SameNuts.l0]; rw [if_neg (by omega)]) ?_
    simp only [anyT, Bool.or_false]
    exact Ev.now _
  | succ d ih =>
    intro i l w q hi h
    have e1 : wrap64 ((i : Int) + 1) = ((i + 1 : Nat) : Int) := by rw [w64 (by omega) (by omega)]; rfl
    have n2 := nuts_turn h
    refine Ev.step (fun k => by simp only [spec_SameNuts.l0]; rfl) (ev_if_pos (by omega) (Ev.bind (spec_turn_ev h) ?_))
    rw [e1]
    cases q with
    | true =>
      refine ev_if_pos rfl ?_
      have next := ih (i + 1) (turnB l w) l.length true (by omega) n2
      simpa only [Bool.true_or] using next
    | false =>
      refine ev_if_neg (by decide) (Ev.bind (same_ev (turnB l w) b (by have := n2.rows8; omega)).1 ?_)
      have next := ih (i + 1) (turnB l w) l.length (decide (turnB l w = b)) (by omega) n2
      rw [Bool.false_or]
      exact next
theorem impl_loop (b : List ByteArray) : ∀ (d i : Nat) (l : List ByteArray) (w : Nat), i + d = 4 → Nuts l w → Ev (fun k => impl_SameNuts.l0 k l b (i : Int)) (anyI b d l w, true) := by
  intro d
  induction d with
  | zero =>
    intro i l w hi h
    exact Ev.step (f := fun _ => some (false, true)) (fun k => by simp only [impl_SameNuts.l0]; rw [if_neg (by omega)]) (Ev.now _)
  | succ d ih =>
    intro i l w hi h
    have e1 : wrap64 ((i : Int) + 1) = ((i + 1 : Nat) : Int) := by rw [w64 (by omega) (by omega)]; rfl
    refine Ev.step (fun k => by simp only [impl_SameNuts.l0]; rfl) (ev_if_pos (by omega) (Ev.bind (same_ev l b (by have := h.rows8; omega)).2 ?_))
    rw [e1]
    by_cases e : l = b
    · rw [decide_eq_true e]
      refine ev_if_pos rfl ?_
      simp only [anyI, decide_eq_true e, Bool.true_or]
      exact Ev.now _
    · rw [decide_eq_false e]
      refine ev_if_neg (by decide) (ev_val (impl_turn_some h) ?_)
      have next := ih (i + 1) (turnB l w) l.length (by omega) (nuts_turn h)
      simp only [anyI, decide_eq_false e, Bool.false_or]
      exact next
theorem same_both (a b : List ByteArray) (ha : a.length ≤ 1048576) (hza : sizes a ≤ 1048576) (hb : b.length ≤ 1048576) (hzb : sizes b ≤ 1048576) : ∃ r : Bool × Bool, Ev (fun k => spec_SameNuts.f k a b) r ∧ Ev (fun k => impl_SameNuts.f k a b) r := by
  obtain ⟨p, hg, hi, hn⟩ := good_both a ha hza
  obtain ⟨q, hg2, hi2, -⟩ := good_both b hb hzb
  have no1 : Ev (fun k => spec_SameNuts.j0 k a b true) (false, false) := Ev.step (f := fun _ => some (false, false)) (fun k => by simp [spec_SameNuts.j0]) (Ev.now _)
  have no2 : Ev (fun k => impl_SameNuts.j0 k a b true) (false, false) := Ev.step (f := fun _ => some (false, false)) (fun k => by simp [impl_SameNuts.j0]) (Ev.now _)
  unfold spec_SameNuts.f impl_SameNuts.f
  cases p with
  | false => exact ⟨(false, false), Ev.bind hg (ev_if_neg (by decide) no1), ev_val hi (ev_if_neg (by decide) no2)⟩
  | true =>
    cases q with
    | false => exact ⟨(false, false), Ev.bind hg (ev_if_pos rfl (Ev.bind hg2 no1)), ev_val hi (ev_if_pos rfl (ev_val hi2 no2))⟩
    | true =>
      obtain ⟨w, h⟩ := hn rfl
      have s := spec_loop b 4 0 a w false rfl h
      have t := impl_loop b 4 0 a w rfl h
      rw [Bool.false_or, any_same h b] at s
      have s2 : Ev (fun k => spec_SameNuts.j0 k a b false) (anyI b 4 a w, true) := Ev.step (fun k => by simp only [spec_SameNuts.j0]; rw [if_neg (by decide)]; rfl) s
      have t2 : Ev (fun k => impl_SameNuts.j0 k a b false) (anyI b 4 a w, true) := Ev.step (fun k => by simp only [impl_SameNuts.j0]; rw [if_neg (by decide)]; rfl) t
      exact ⟨_, Ev.bind hg (ev_if_pos rfl (Ev.bind hg2 s2)), ev_val hi (ev_if_pos rfl (ev_val hi2 t2))⟩
theorem FnExactSameNuts (l0 : List ByteArray) (hm : l0.length ≤ maxLen) (_ : l0.length * 16 ≤ 140737488351232) (hs : (∀ s ∈ l0, s.size ≤ 140737488351232)) (l1 : List ByteArray) (hm1 : l1.length ≤ maxLen) (_ : l1.length * 16 ≤ 140737488351232) (hs1 : (∀ s ∈ l1, s.size ≤ 140737488351232)) : ∃ k, laws_FnExactSameNuts.f k l0 l1 = some true := by
  refine Ev.rounds (r := true) ?_
  unfold laws_FnExactSameNuts.f
  obtain ⟨t, htle, ht, hz⟩ := szc_ev l0 hm hs 1048576 (by omega) (by omega)
  refine Ev.bind ht ?_
  by_cases h0 : t < 0
  · simp only [if_pos h0]
    exact Ev.now _
  · simp only [if_neg h0]
    obtain ⟨hl, hz⟩ := hz (by omega)
    obtain ⟨t1, _, ht1, hz1⟩ := szc_ev l1 hm1 hs1 t (by omega) htle
    refine Ev.bind ht1 ?_
    by_cases h1 : t1 < 0
    · simp only [if_pos h1]
      exact Ev.now _
    · simp only [if_neg h1]
      obtain ⟨hl1, hz1⟩ := hz1 (by omega)
      have hc := toStringS_ev l0 hl
      have hc1 := toStringS_ev l1 hl1
      obtain ⟨r, hS, hI⟩ := same_both l0 l1 hl hz hl1 hz1
      refine Ev.bind hc (Ev.bind hc1 (Ev.bind hS (Ev.bind hc (Ev.bind hc1 (Ev.bind hI ?_)))))
      simp only [bne_self_eq_false, Bool.false_eq_true, if_false]
      refine Ev.step (fun k => by simp only [laws_FnExactSameNuts.j0, Bool.false_eq_true, if_false]; rfl) ?_
      refine Ev.bind hc (Ev.bind (eqStringS_refl l0 (by omega)) ?_)
      simp only [if_true]
      refine Ev.bind hc1 (Ev.bind (eqStringS_refl l1 (by omega)) ?_)
      simp only [if_true]
      exact Ev.now _
end Go.Proofs.YthfmfeghipjpdaaDoor.Pure
