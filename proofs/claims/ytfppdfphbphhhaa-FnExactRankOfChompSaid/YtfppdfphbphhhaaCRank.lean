/- The rank of a chomp: the list of all chomps is in the order of their keys, and holds each. -/
import Derived.Test.YtfppdfphbphhhaaUW
import Derived.Test.YtfppdfphbphhhaaCChomp
import Derived.Test.YtfppdfphbphhhaaOAll
import Derived.Test.YtfppdfphbphhhaaPx58
import Derived.Test.YtfppdfphbphhhaaPx59
import Derived.Lib.SlBy
namespace Go.Proofs.Ytfppdfphbphhhaa.Pure
open Go.RowKit Go.Proofs.Ytfppdfphbphhhaa.P Go.Proofs.YtfppdfphbphhhaaW.PrintWords Go.Proofs.YtfppdfphbphhhaaW.PrintLast
def keyFrom (l : List Int) : Nat → Nat → Int → Int
  | 0, _, x => x
  | d + 1, i, x => keyFrom l d (i + 1) (x * 7 + rd l (i : Int))
def keyOf (l : List Int) : Int := keyFrom l 6 0 0
def sortedB : List Int → Bool
  | a :: b :: l => decide (a < b) && sortedB (b :: l)
  | _ => true
theorem sorted_pairwise : ∀ l : List Int, sortedB l = true → l.Pairwise (· < ·)
  | [], _ => List.Pairwise.nil
  | [a], _ => by simp
  | a :: b :: l, h => by
    simp only [sortedB, Bool.and_eq_true, decide_eq_true_eq] at h
    have ih := sorted_pairwise (b :: l) h.2
    refine List.pairwise_cons.2 ⟨fun x hx => ?_, ih⟩
    rcases List.mem_cons.1 hx with rfl | hx
    · exact h.1
    · have := (List.pairwise_cons.1 ih).1 x hx
      omega
def allOf : List (List Int) := gen 6 6 []
theorem all_sorted : sortedB (allOf.map keyOf) = true := by decide +kernel
theorem all_small : (allOf.all fun y => decide (y.length ≤ 6) && y.all fun x => decide (1 ≤ x ∧ x ≤ 6)) = true := by decide +kernel
theorem all_len : allOf.length ≤ 1000 := by decide +kernel
theorem rd_range {l : List Int} (h : ∀ x ∈ l, 1 ≤ x ∧ x ≤ 6) (i : Nat) : 0 ≤ rd l (i : Int) ∧ rd l (i : Int) ≤ 6 ∧ (¬ (i : Int) < (l.length : Int) → rd l (i : Int) = 0) := by
  by_cases hi : i < l.length
  · rw [rd_lt l i hi]
    have := h l[i] (List.getElem_mem hi)
    exact ⟨by omega, by omega, fun h2 => by omega⟩
  · have e : rd l (i : Int) = 0 := by
      unfold rd
      simp [show l.length ≤ i by omega]
    rw [e]
    exact ⟨by omega, by omega, fun _ => rfl⟩
theorem key_l0 (l : List Int) (h : ∀ x ∈ l, 1 ≤ x ∧ x ≤ 6) : ∀ (d i : Nat) (x : Int), i + d = 6 → 0 ≤ x → x < 10 ^ i → Ev (fun k => spec_cmKey.l0 k l x (i : Int)) (keyFrom l d i x) := by
  intro d
  induction d with
  | zero =>
    intro i x hi h0 h1
    refine Ev.step (f := fun _ => some x) (fun k => ?_) (Ev.now _)
    simp only [spec_cmKey.l0]
    rw [if_neg (by omega)]
  | succ d ih =>
    intro i x hi h0 h1
    obtain ⟨r0, r6, rn⟩ := rd_range h i
    have hp : (10 : Int) ^ i ≤ 10 ^ 5 := by
      have : i = 0 ∨ i = 1 ∨ i = 2 ∨ i = 3 ∨ i = 4 ∨ i = 5 := by omega
      rcases this with rfl | rfl | rfl | rfl | rfl | rfl <;> decide
    have h1p : (1 : Int) ≤ 10 ^ i := by
      have : i = 0 ∨ i = 1 ∨ i = 2 ∨ i = 3 ∨ i = 4 ∨ i = 5 := by omega
      rcases this with rfl | rfl | rfl | rfl | rfl | rfl <;> decide
    have hs : (10 : Int) ^ (i + 1) = 10 ^ i * 10 := by rw [Int.pow_succ]
    have next := ih (i + 1) (x * 7 + rd l (i : Int)) (by omega) (by omega) (by
      rw [hs]
      omega)
    have hw : wrap64 (x * 7) = x * 7 := w64 (by omega) (by omega)
    have hi1 : wrap64 ((i : Int) + 1) = ((i + 1 : Nat) : Int) := by rw [w64 (by omega) (by omega)]; omega
    by_cases hl : (i : Int) < (l.length : Int)
    · refine Ev.step (fun k => by simp only [spec_cmKey.l0]; rfl) (ev_if_pos (by omega) (ev_if_pos hl (ev_if_pos (by omega) ?_)))
      rw [hw, hi1, w64 (by omega) (by omega)]
      exact next
    · refine Ev.step (fun k => by simp only [spec_cmKey.l0]; rfl) (ev_if_pos (by omega) (ev_if_neg hl ?_))
      rw [hw, hi1]
      have e : x * 7 = x * 7 + rd l (i : Int) := by rw [rn hl]; omega
      rw [e]
      exact next
theorem key_ev (l : List Int) (h : ∀ x ∈ l, 1 ≤ x ∧ x ≤ 6) : Ev (fun k => spec_cmKey.f k l) (keyOf l) := key_l0 l h 6 0 0 rfl (by omega) (by decide)
theorem rank_l0 (l : List Int) (A : List (List Int)) (hA : A.length ≤ 1000) (hk : ∀ y ∈ A, Ev (fun k => spec_cmKey.f k y) (keyOf y)) (hl : Ev (fun k => spec_cmKey.f k l) (keyOf l)) : ∀ (d i r : Nat), i + d = A.length → r ≤ i →
    Ev (fun k => spec_RankOfChomp.l0 k l (r : Int) A (A.length : Int) (i : Int)) (((r + (A.drop i).countP (fun y => decide (keyOf y < keyOf l)) : Nat) : Int), true) := by
  intro d
  induction d with
  | zero =>
    intro i r hi hr
    rw [List.drop_eq_nil_of_le (by omega), List.countP_nil, Nat.add_zero]
    refine Ev.step (f := fun _ => some ((r : Int), true)) (fun k => ?_) (Ev.now _)
    simp only [spec_RankOfChomp.l0]
    rw [if_neg (by omega)]
  | succ d ih =>
    intro i r hi hr
    have hlt : i < A.length := by omega
    have hy : rd_L1 A (i : Int) = A[i] := by unfold rd_L1; rw [Int.toNat_natCast, List.getD_eq_getElem?_getD, List.getElem?_eq_getElem hlt]; rfl
    have hi1 : wrap64 ((i : Int) + 1) = ((i + 1 : Nat) : Int) := by rw [w64 (by omega) (by omega)]; omega
    have hr1 : wrap64 ((r : Int) + 1) = ((r + 1 : Nat) : Int) := by rw [w64 (by omega) (by omega)]; omega
    rw [List.drop_eq_getElem_cons hlt, List.countP_cons]
    refine Ev.step (fun k => by simp only [spec_RankOfChomp.l0]; rfl) (ev_if_pos (by omega) (ev_if_pos (by omega) (ev_if_pos (by omega) ?_)))
    rw [hy, hi1, hr1]
    refine Ev.bind (hk A[i] (List.getElem_mem hlt)) (Ev.bind hl ?_)
    by_cases c : keyOf A[i] < keyOf l
    · rw [decide_eq_true c]
      refine ev_if_pos c ?_
      have next := ih (i + 1) (r + 1) (by omega) (by omega)
      rw [if_pos rfl, show r + ((A.drop (i + 1)).countP (fun y => decide (keyOf y < keyOf l)) + 1) = r + 1 + (A.drop (i + 1)).countP (fun y => decide (keyOf y < keyOf l)) by omega]
      exact next
    · rw [decide_eq_false c]
      refine ev_if_neg c ?_
      have next := ih (i + 1) r (by omega) (by omega)
      rw [if_neg (by decide), Nat.add_zero]
      exact next
theorem mem_gen (l : List Int) (h1 : 1 ≤ l.length) (hm : ∀ x ∈ l, 1 ≤ x ∧ x ≤ 6) (hd : Desc l 1) : ∀ (d i r most : Nat), i + d = l.length → d ≤ r → (∀ h : i < l.length, l[i] ≤ (most : Int)) → l ∈ gen r most (l.take i) := by
  intro d
  induction d with
  | zero =>
    intro i r most hi hr hmost
    rw [List.take_of_length_le (by omega)]
    have : l ∈ headRow l := by unfold headRow; rw [if_pos (by omega)]; simp
    cases r with
    | zero => exact this
    | succ r => rw [gen_succ]; exact List.mem_append_left _ this
  | succ d ih =>
    intro i r most hi hr hmost
    obtain ⟨r, rfl⟩ : ∃ q, r = q + 1 := ⟨r - 1, by omega⟩
    have hlt : i < l.length := by omega
    have hx := hm l[i] (List.getElem_mem hlt)
    have hxm := hmost hlt
    have next := ih (i + 1) r (l[i]).toNat (by omega) (by omega) (fun h => by
      have a := hd (i + 1) (by omega) h
      rw [rd_lt l (i + 1) h, show ((i + 1 : Nat) : Int) - 1 = (i : Int) by omega, rd_lt l i hlt] at a
      omega)
    rw [gen_succ]
    refine List.mem_append_right _ ?_
    unfold genUp
    refine List.mem_flatMap.2 ⟨(l[i]).toNat - 1, List.mem_range.2 (by omega), ?_⟩
    rw [show (l[i]).toNat - 1 + 1 = (l[i]).toNat by omega, Int.toNat_of_nonneg (by omega)]
    rw [List.take_succ_eq_append_getElem hlt] at next
    exact next
/-- Where a list stands in the list of all chomps: as many as have a smaller key. -/
theorem place (l : List Int) (h : l ∈ allOf) : ∃ n : Nat, allOf.countP (fun y => decide (keyOf y < keyOf l)) = n ∧ Lib.idxBy (fun x y => decide (y = x)) allOf l = (n : Int) := by
  have hs := sorted_pairwise _ all_sorted
  generalize allOf = A at h hs ⊢
  obtain ⟨n, hn, e⟩ := List.mem_iff_getElem.1 h
  have mono : ∀ (i j : Nat) (hi : i < A.length) (hj : j < A.length), i < j → keyOf A[i] < keyOf A[j] := by
    intro i j hi hj hij
    have := List.pairwise_iff_getElem.1 hs i j (by simpa using hi) (by simpa using hj) hij
    simpa using this
  refine ⟨n, ?_, ?_⟩
  · have sp : A.countP (fun y => decide (keyOf y < keyOf l)) = (A.take n).countP (fun y => decide (keyOf y < keyOf l)) + (A.drop n).countP (fun y => decide (keyOf y < keyOf l)) := by
      rw [← List.countP_append, List.take_append_drop]
    have a : (A.take n).countP (fun y => decide (keyOf y < keyOf l)) = (A.take n).length := by
      refine List.countP_eq_length.2 fun y hy => ?_
      obtain ⟨i, hi, rfl⟩ := List.mem_iff_getElem.1 hy
      have hin : i < n := by simp at hi; omega
      rw [List.getElem_take, ← e]
      exact decide_eq_true (mono i n (by omega) hn hin)
    have b : (A.drop n).countP (fun y => decide (keyOf y < keyOf l)) = 0 := by
      refine List.countP_eq_zero.2 fun y hy => ?_
      obtain ⟨i, hi, rfl⟩ := List.mem_iff_getElem.1 hy
      rw [List.getElem_drop, ← e]
      simp only [decide_eq_true_eq]
      by_cases h0 : i = 0
      · subst h0
        simp
      · have := mono n (n + i) hn (by simp at hi; omega) (by omega)
        omega
    rw [sp, a, b, List.length_take]
    omega
  · have hit := Lib.idxBy_hit (fun x y => decide (y = x)) A A.length n l hn (Nat.le_refl _) (by
      rw [getElem!_pos A n hn, e]
      simp) (fun j hj => by
      rw [getElem!_pos A j (by omega)]
      refine decide_eq_false fun he => ?_
      have := mono j n (by omega) hn hj
      rw [he, e] at this
      omega)
    rw [List.take_length] at hit
    exact hit
end Go.Proofs.Ytfppdfphbphhhaa.Pure
