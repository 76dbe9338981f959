/- Nuts turned four times are the nuts; two lists of texts compared. -/
import Derived.Test.YthfmfeghipjpdaaDoorDTurn
import Derived.Test.YthfmfeghipjpdaaDoorPx42
import Derived.Test.YthfmfeghipjpdaaDoorPx44
namespace Go.Proofs.YthfmfeghipjpdaaDoor.Pure
open Go.RowKit Go.Proofs.YthfmfeghipjpdaaDoor.P Go.Proofs.YthfmfeghipjpdaaDoorW.PrintWords Go.Proofs.YthfmfeghipjpdaaDoorW.PrintLast
theorem bt_nums (A : List Int) (hA : ∀ a ∈ A, 0 ≤ a ∧ a ≤ 255) (j : Nat) (hj : j < A.length) : bt (strOfNums A) (j : Int) = A[j] := by
  have hs : j < (strOfNums A).size := by rw [turn_size]; exact hj
  have e : (strOfNums A).data.toList[j]? = some (UInt8.ofNat (A[j]).toNat) := by
    show (A.map fun n => UInt8.ofNat n.toNat)[j]? = _
    rw [List.getElem?_map, List.getElem?_eq_getElem hj]
    rfl
  rw [List.getElem?_eq_getElem (by rw [← Lib.size_eq]; exact hs)] at e
  have h := hA A[j] (List.getElem_mem hj)
  rw [bt_lt _ j hs, Option.some.inj e, UInt8.toNat_ofNat']
  omega
theorem turn_get {l : List ByteArray} {w : Nat} (x j : Nat) (hx : x < w) (hj : j < l.length) : bt ((turnB l w)[x]'(by simpa [turnB] using hx)) (j : Int) = bt (l[l.length - 1 - j]) (x : Int) := by
  have e1 : (turnB l w)[x]'(by simpa [turnB] using hx) = strOfNums (colB l x) := by simp [turnB]
  rw [e1, bt_nums (colB l x) (fun a ha => by
    unfold colB at ha
    obtain ⟨s, _, rfl⟩ := List.mem_map.1 ha
    exact bt_range s x) j (by simpa [colB] using hj)]
  simp [colB]
theorem nuts_turn {l : List ByteArray} {w : Nat} (h : Nuts l w) : Nuts (turnB l w) l.length where
  rows1 := by have := h.wide1; simpa [turnB] using this
  rows8 := by have := h.wide8; simpa [turnB] using this
  wide1 := h.rows1
  wide8 := h.rows8
  wide := fun s hs => by
    obtain ⟨x, _, rfl⟩ := List.mem_map.1 hs
    rw [turn_size]
    simp [colB]
  digit := fun s hs b hb => by
    obtain ⟨x, hx, rfl⟩ := List.mem_map.1 hs
    have hx := List.mem_range.1 hx
    unfold strOfNums at hb
    obtain ⟨n, hn, rfl⟩ := List.mem_map.1 (by simpa using hb : b ∈ (colB l x).map fun n => UInt8.ofNat n.toNat)
    unfold colB at hn
    obtain ⟨t, ht, rfl⟩ := List.mem_map.1 hn
    have ht := List.mem_reverse.1 ht
    have hw := h.wide t ht
    rw [bt_lt t x (by omega)]
    have := h.digit t ht _ (List.getElem_mem (by rw [← Lib.size_eq]; omega : x < t.data.toList.length))
    rw [UInt8.toNat_ofNat']
    omega
theorem nuts_ext {l m : List ByteArray} {w : Nat} (hl : Nuts l w) (hm : Nuts m w) (hn : l.length = m.length) (h : ∀ (i j : Nat) (hi : i < l.length), j < w → bt l[i] (j : Int) = bt (m[i]'(by omega)) (j : Int)) : l = m := by
  refine List.ext_getElem hn fun i hi hi2 => ?_
  have s1 := hl.wide _ (List.getElem_mem hi)
  have s2 := hm.wide _ (List.getElem_mem hi2)
  refine turn_bytes (List.ext_getElem (by rw [← Lib.size_eq, ← Lib.size_eq, s1, s2]) fun j hj hj2 => ?_)
  have hjw : j < w := by rw [← Lib.size_eq, s1] at hj; exact hj
  have := h i j hi hjw
  rw [bt_lt _ j (by omega), bt_lt _ j (by omega)] at this
  exact UInt8.toNat_inj.1 (by omega)
theorem turn_two {l : List ByteArray} {w : Nat} (_ : Nuts l w) (i j : Nat) (hi : i < l.length) (hj : j < w) : bt ((turnB (turnB l w) l.length)[i]'(by simpa [turnB] using hi)) (j : Int) = bt (l[l.length - 1 - i]) ((w - 1 - j : Nat) : Int) := by
  have hlen : (turnB l w).length = w := by simp [turnB]
  rw [turn_get i j hi (by omega)]
  have := turn_get (l := l) (w := w) ((turnB l w).length - 1 - j) i (by omega) hi
  rw [this, hlen]
theorem turn_four {l : List ByteArray} {w : Nat} (h : Nuts l w) : turnB (turnB (turnB (turnB l w) l.length) w) l.length = l := by
  have hlen : (turnB l w).length = w := by simp [turnB]
  have h2 := nuts_turn (nuts_turn h)
  rw [hlen] at h2
  have hlen2 : (turnB (turnB l w) l.length).length = l.length := by simp [turnB]
  have h4 := nuts_turn (nuts_turn h2)
  have hlen3 : (turnB (turnB (turnB l w) l.length) w).length = w := by simp [turnB]
  rw [hlen3, hlen2] at h4
  have hlen4 : (turnB (turnB (turnB (turnB l w) l.length) w) l.length).length = l.length := by simp [turnB]
  refine nuts_ext h4 h hlen4 fun i j hi hj => ?_
  have hi' : i < l.length := by omega
  have a := turn_two h2 i j (by omega) hj
  simp only [hlen2] at a
  rw [a]
  have b := turn_two h (l.length - 1 - i) (w - 1 - j) (by omega) (by omega)
  rw [b]
  simp only [show l.length - 1 - (l.length - 1 - i) = i by omega, show w - 1 - (w - 1 - j) = j by omega]
theorem same_l0 (a b : List ByteArray) (hab : a.length = b.length) (ha : a.length ≤ 100) : ∀ (d i : Nat), i + d = a.length → (∀ j (h : j < a.length), j < i → a[j] = b[j]'(by omega)) → Ev (fun k => spec_l1SameS.l0 k a b (a.length : Int) (i : Int)) (decide (a = b)) ∧ Ev (fun k => slices_Equal_string_string.l0 k a b (a.length : Int) (i : Int)) (decide (a = b)) := by
  intro d
  induction d with
  | zero =>
    intro i hi hj
    have e : a = b := List.ext_getElem hab fun j h1 h2 => hj j h1 (by omega)
    rw [decide_eq_true e]
    exact ⟨Ev.step (f := fun _ => some true) (fun k => by simp only [spec_l1SameS.l0]; rw [if_neg (by omega)]) (Ev.now _), Ev.step (f := fun _ => some true) (fun k => by simp only [slices_Equal_string_string.l0]; rw [if_neg (by omega)]) (Ev.now _)⟩
  | succ d ih =>
    intro i hi hj
    have h1 : i < a.length := by omega
    have h2 : i < b.length := by omega
    have e1 : wrap64 ((i : Int) + 1) = ((i + 1 : Nat) : Int) := by rw [w64 (by omega) (by omega)]; rfl
    have r1 : rdOf ByteArray.empty a (i : Int) = a[i] := rs_lt a i h1
    have r2 : rdOf ByteArray.empty b (i : Int) = b[i] := rs_lt b i h2
    by_cases he : a[i] = b[i]
    · have next := ih (i + 1) (by omega) (fun j h hlt => by
        by_cases e : j = i
        · subst e; exact he
        · exact hj j h (by omega))
      refine ⟨Ev.step (fun k => by simp only [spec_l1SameS.l0]; rfl) (ev_if_pos (by omega) (ev_if_pos (by omega) (ev_if_pos (by omega) (ev_if_pos (by omega) (ev_if_pos (by rw [r1, r2, he]) ?_))))), Ev.step (fun k => by simp only [slices_Equal_string_string.l0]; rfl) (ev_if_pos (by omega) (ev_if_pos (by omega) (ev_if_pos (by omega) (ev_if_pos (by omega) (ev_if_pos (by rw [r1, r2, he]) ?_)))))⟩
      · rw [e1]; exact next.1
      · rw [e1]; exact next.2
    · have hne : a ≠ b := fun e => he (by subst e; rfl)
      have hne2 : ¬ (rdOf ByteArray.empty a (i : Int)).toList = (rdOf ByteArray.empty b (i : Int)).toList := by
        rw [r1, r2]
        intro e
        exact he (turn_bytes (by rw [← Lib.toList_data, ← Lib.toList_data]; exact e))
      rw [decide_eq_false hne]
      exact ⟨Ev.step (fun k => by simp only [spec_l1SameS.l0]; rfl) (ev_if_pos (by omega) (ev_if_pos (by omega) (ev_if_pos (by omega) (ev_if_pos (by omega) (ev_if_neg hne2 (Ev.now _)))))), Ev.step (fun k => by simp only [slices_Equal_string_string.l0]; rfl) (ev_if_pos (by omega) (ev_if_pos (by omega) (ev_if_pos (by omega) (ev_if_pos (by omega) (ev_if_neg hne2 (Ev.now _))))))⟩
theorem same_ev (a b : List ByteArray) (ha : a.length ≤ 100) : Ev (fun k => spec_l1SameS.f k a b) (decide (a = b)) ∧ Ev (fun k => slices_Equal_string_string.f k a b) (decide (a = b)) := by
  unfold spec_l1SameS.f slices_Equal_string_string.f
  by_cases h : a.length = b.length
  · have s := same_l0 a b h ha a.length 0 (by omega) (fun j _ h => absurd h (Nat.not_lt_zero _))
    exact ⟨ev_if_pos (by omega) s.1, ev_if_pos (by omega) s.2⟩
  · rw [decide_eq_false (fun e => h (by rw [e]))]
    exact ⟨ev_if_neg (by omega) (Ev.now _), ev_if_neg (by omega) (Ev.now _)⟩
end Go.Proofs.YthfmfeghipjpdaaDoor.Pure
