/- Lists of texts: measured, copied, compared with themselves. Condition: a list shorter than any machine's memory. -/
import Derived.Test.YthfmfeghipjpdaaDoorUW
import Derived.Test.YthfmfeghipjpdaaDoorPx5
import Derived.Test.YthfmfeghipjpdaaDoorPx10
import Derived.Test.YthfmfeghipjpdaaDoorPx1
namespace Go.Proofs.YthfmfeghipjpdaaDoor.Pure
open Go.RowKit Go.Proofs.YthfmfeghipjpdaaDoor.P Go.Proofs.YthfmfeghipjpdaaDoorW.PrintWords Go.Proofs.YthfmfeghipjpdaaDoorW.PrintLast
theorem rs_get (l : List ByteArray) (i : Nat) (v : ByteArray) (h : l[i]? = some v) : rdOf ByteArray.empty l (i : Int) = v := by
  unfold rdOf
  simp [h]
theorem rs_lt (l : List ByteArray) (i : Nat) (h : i < l.length) : rdOf ByteArray.empty l (i : Int) = l[i] := rs_get l i _ (List.getElem?_eq_getElem h)
def sizes (l : List ByteArray) : Nat := (l.map fun s => s.size).sum
theorem sz_l0 (l : List ByteArray) (hm : l.length ≤ 1048576) (hs : ∀ s ∈ l, s.size ≤ 140737488351232) : ∀ (d i : Nat) (c : Int), i + d = l.length → 0 ≤ c → c ≤ 1048576 → ∃ t, Ev (fun k => laws_szStringS.l0 k l c (i : Int)) t ∧ (0 ≤ t → (sizes (l.drop i) : Int) ≤ c) := by
  intro d
  induction d with
  | zero =>
    intro i c hi hc0 hc
    refine ⟨c, Ev.step (f := fun _ => some c) (fun k => by simp only [laws_szStringS.l0]; rw [if_neg (by omega)]) (Ev.now _), fun _ => ?_⟩
    rw [List.drop_of_length_le (by omega)]
    simp [sizes]
    exact hc0
  | succ d ih =>
    intro i c hi hc0 hc
    have hlt : i < l.length := by omega
    have hsi := hs l[i] (List.getElem_mem hlt)
    have w1 : wrap64 (c - (l[i].size : Int)) = c - (l[i].size : Int) := w64 (by omega) (by omega)
    by_cases h : c - (l[i].size : Int) < 0
    · refine ⟨-1, Ev.step (f := fun _ => some (-1)) (fun k => ?_) (Ev.now _), fun h => by omega⟩
      simp only [laws_szStringS.l0, rs_lt l i hlt, w1]
      rw [if_pos (by omega), if_pos (by omega), if_pos h]
    · obtain ⟨t, s, ht⟩ := ih (i + 1) (c - (l[i].size : Int)) (by omega) (by omega) (by omega)
      refine ⟨t, Ev.step (fun k => ?_) s, fun h0 => ?_⟩
      · simp only [laws_szStringS.l0, rs_lt l i hlt, w1]
        rw [if_pos (by omega), if_pos (by omega), if_neg h, w64 (x := (i : Int) + 1) (by omega) (by omega)]
        rfl
      · have := ht h0
        rw [List.drop_eq_getElem_cons hlt]
        have e : sizes (l[i] :: l.drop (i + 1)) = l[i].size + sizes (l.drop (i + 1)) := rfl
        rw [e]
        omega
theorem sz_ev (l : List ByteArray) (hm : l.length ≤ maxLen) (hs : ∀ s ∈ l, s.size ≤ 140737488351232) : ∃ t, Ev (fun k => laws_szStringS.f k l 1048576) t ∧ (0 ≤ t → l.length ≤ 1048576 ∧ sizes l ≤ 1048576) := by
  unfold maxLen at hm
  have w1 : wrap64 (1048576 - (l.length : Int)) = 1048576 - (l.length : Int) := w64 (by omega) (by omega)
  unfold laws_szStringS.f
  simp only [w1]
  by_cases h : 1048576 - (l.length : Int) < 0
  · refine ⟨-1, ?_, fun h => by omega⟩
    simp only [if_pos h]
    exact Ev.now _
  · obtain ⟨t, s, ht⟩ := sz_l0 l (by omega) hs l.length 0 (1048576 - (l.length : Int)) (by omega) (by omega) (by omega)
    refine ⟨t, ?_, fun h0 => ⟨by omega, ?_⟩⟩
    · simp only [if_neg h]
      exact s
    · have := ht h0
      rw [List.drop_zero] at this
      omega
theorem toStringS_l0 (l : List ByteArray) (hn : l.length ≤ 1048576) : ∀ (d i : Nat) (o : List ByteArray), i + d = l.length → o.length = l.length → (∀ j, j < i → o[j]? = l[j]?) → ∀ k, d < k →
    laws_toStringS.l0 k l o (i : Int) = some l := by
  intro d
  induction d with
  | zero =>
    intro i o hi ho h k hk
    obtain ⟨m, rfl⟩ : ∃ m, k = m + 1 := ⟨k - 1, by omega⟩
    simp only [laws_toStringS.l0]
    rw [if_neg (by omega)]
    congr 1
    apply List.ext_getElem?
    intro j
    by_cases hj : j < i
    · exact h j hj
    · rw [List.getElem?_eq_none (by omega), List.getElem?_eq_none (by omega)]
  | succ d ih =>
    intro i o hi ho h k hk
    obtain ⟨m, rfl⟩ : ∃ m, k = m + 1 := ⟨k - 1, by omega⟩
    simp only [laws_toStringS.l0, Int.toNat_natCast]
    rw [if_pos (by omega), if_pos (by omega), if_pos (by omega), w64 (by omega) (by omega), rs_lt l i (by omega)]
    refine ih (i + 1) _ (by omega) (by rw [List.length_set]; omega) (fun j hj => ?_) m (by omega)
    by_cases hji : j = i
    · subst hji
      rw [List.getElem?_set_self (by omega), List.getElem?_eq_getElem (by omega)]
    · rw [List.getElem?_set_ne (by omega)]
      exact h j (by omega)
theorem toStringS_ev (l : List ByteArray) (hn : l.length ≤ 1048576) : Ev (fun k => laws_toStringS.f k l) l := by
  refine ⟨l.length + 1, fun k hk => ?_⟩
  show laws_toStringS.f k l = _
  unfold laws_toStringS.f
  rw [if_pos (by omega), if_pos (by rw [Int.toNat_natCast]; omega)]
  exact toStringS_l0 l hn l.length 0 _ (by omega) (by simp) (fun j hj => by omega) k (by omega)
theorem eqStringS_l0 (l : List ByteArray) (hn : l.length ≤ 1000000000000) : ∀ (d i : Nat), i + d = l.length → ∀ k, d < k → laws_eqStringS.l0 k l l (i : Int) = some true := by
  intro d
  induction d with
  | zero =>
    intro i hi k hk
    obtain ⟨m, rfl⟩ : ∃ m, k = m + 1 := ⟨k - 1, by omega⟩
    simp only [laws_eqStringS.l0]
    rw [if_neg (by omega)]
  | succ d ih =>
    intro i hi k hk
    obtain ⟨m, rfl⟩ : ∃ m, k = m + 1 := ⟨k - 1, by omega⟩
    simp only [laws_eqStringS.l0]
    rw [if_pos (by omega), if_pos (by omega), if_pos (by omega)]
    simp only [if_true]
    rw [w64 (by omega) (by omega)]
    exact ih (i + 1) (by omega) m (by omega)
theorem eqStringS_refl (l : List ByteArray) (hn : l.length ≤ 1000000000000) : Ev (fun k => laws_eqStringS.f k l l) true := by
  refine ⟨l.length + 1, fun k hk => ?_⟩
  simp only [laws_eqStringS.f, if_true]
  exact eqStringS_l0 l hn l.length 0 (by omega) k (by omega)
end Go.Proofs.YthfmfeghipjpdaaDoor.Pure
