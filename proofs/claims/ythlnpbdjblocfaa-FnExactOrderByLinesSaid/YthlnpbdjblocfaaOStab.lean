/- Stable sorting by merging in place, in plain lists: binary search, rotation, and the merge of two sorted runs. Conditions: as each states. | The merge in place keeps the elements; its general case, step by step. Conditions: as each states. | slices.swapRangeCmpFunc over a row of one-cell things: what the call comes to. Conditions: as it states. | Rotation by exchanges of ranges, in plain lists. Conditions: as each states. | slices.rotateCmpFunc over a row of lines: what the call comes to. Conditions: as it states. | slices.insertionSortCmpFunc over a row of lines: what the call comes to. Conditions: as it states. | slices.symMergeCmpFunc over a row of lines, where the left run has one element. Conditions: as it states. | slices.symMergeCmpFunc over a row of lines, where the right run has one element. Conditions: as it states. | slices.symMergeCmpFunc over a row of lines: the general case where the middle lies ahead of the right run. Conditions: as it states. | slices.symMergeCmpFunc over a row of lines: the general case where the middle does not lie ahead of the right run. Conditions: as it states. | slices.symMergeCmpFunc over a row of lines: what the call comes to. Conditions: as it states. | slices.stableCmpFunc and slices.SortStableFunc over a row of at most 39 lines: what the calls come to. Conditions: as each states. -/
import Derived.Test.YthlnpbdjblocfaaUW
import Derived.Test.YthlnpbdjblocfaaWKept
import Derived.Deep.RegionHeld3
import Derived.BigRegion
import Derived.Lib.Hide
namespace Go.Proofs.Ythlnpbdjblocfaa.Srt
set_option linter.unusedVariables false
set_option linter.unusedSimpArgs false
/-- The search between i and j for where P turns false. -/
def bsearch (P : Nat → Bool) : Nat → Nat → Nat → Nat
  | 0, i, _ => i
  | k + 1, i, j => if i < j then (if P ((i + j) / 2) = true then bsearch P k ((i + j) / 2 + 1) j else bsearch P k i ((i + j) / 2)) else i
theorem bsearch_spec (P : Nat → Bool) : ∀ (k i j : Nat), i ≤ j → j ≤ i + k → i ≤ bsearch P k i j ∧ bsearch P k i j ≤ j ∧ (i < bsearch P k i j → P (bsearch P k i j - 1) = true) ∧ (bsearch P k i j < j → P (bsearch P k i j) = false)
  | 0, i, j, h1, h2 => by
    have : bsearch P 0 i j = i := rfl
    rw [this]
    exact ⟨Nat.le_refl _, h1, fun h => absurd h (by omega), fun h => absurd h (by omega)⟩
  | k + 1, i, j, h1, h2 => by
    rw [bsearch]
    by_cases h : i < j
    · rw [if_pos h]
      by_cases hp : P ((i + j) / 2) = true
      · rw [if_pos hp]
        obtain ⟨a, b, c, d⟩ := bsearch_spec P k ((i + j) / 2 + 1) j (by omega) (by omega)
        refine ⟨by omega, b, fun hlt => ?_, d⟩
        by_cases e : (i + j) / 2 + 1 < bsearch P k ((i + j) / 2 + 1) j
        · exact c e
        · rw [show bsearch P k ((i + j) / 2 + 1) j - 1 = (i + j) / 2 by omega]
          exact hp
      · rw [if_neg hp]
        obtain ⟨a, b, c, d⟩ := bsearch_spec P k i ((i + j) / 2) (by omega) (by omega)
        refine ⟨a, by omega, c, fun hlt => ?_⟩
        by_cases e : bsearch P k i ((i + j) / 2) < (i + j) / 2
        · exact d e
        · rw [show bsearch P k i ((i + j) / 2) = (i + j) / 2 by omega]
          simpa using hp
    · rw [if_neg h]
      exact ⟨Nat.le_refl _, h1, fun h => absurd h (by omega), fun h2 => absurd h2 h⟩
section
variable {α : Type}
/-- Two neighbouring parts change places. -/
def rot (l : List α) (a m b : Nat) : List α := l.take a ++ ((l.take b).drop m ++ ((l.take m).drop a ++ l.drop b))
theorem rot_parts (P X Y Q : List α) : rot (P ++ (X ++ (Y ++ Q))) P.length (P.length + X.length) (P.length + X.length + Y.length) = P ++ (Y ++ (X ++ Q)) := by
  have e1 : (P ++ (X ++ (Y ++ Q))).take P.length = P := by rw [List.take_left']; rfl
  have e2 : (P ++ (X ++ (Y ++ Q))).take (P.length + X.length) = P ++ X := by
    rw [← List.append_assoc, List.take_left']
    simp
  have e3 : (P ++ (X ++ (Y ++ Q))).take (P.length + X.length + Y.length) = P ++ X ++ Y := by
    rw [← List.append_assoc, ← List.append_assoc, List.take_left']
    simp [Nat.add_assoc]
  have e4 : (P ++ (X ++ (Y ++ Q))).drop (P.length + X.length + Y.length) = Q := by
    rw [← List.append_assoc, ← List.append_assoc, List.drop_left']
    simp [Nat.add_assoc]
  unfold rot
  rw [e1, e2, e3, e4]
  rw [List.drop_left' (by simp), List.drop_left' rfl]
theorem parts (l : List α) (a m b : Nat) (h1 : a ≤ m) (h2 : m ≤ b) (h3 : b ≤ l.length) : ∃ P X Y Q : List α, l = P ++ (X ++ (Y ++ Q)) ∧ P.length = a ∧ X.length = m - a ∧ Y.length = b - m := by
  refine ⟨l.take a, (l.drop a).take (m - a), (l.drop m).take (b - m), l.drop b, ?_, by rw [List.length_take]; omega, by rw [List.length_take, List.length_drop]; omega, by rw [List.length_take, List.length_drop]; omega⟩
  have e1 : (l.drop m).take (b - m) ++ l.drop b = l.drop m := by
    have := List.take_append_drop (b - m) (l.drop m)
    rwa [List.drop_drop, show m + (b - m) = b by omega] at this
  have e2 : (l.drop a).take (m - a) ++ l.drop m = l.drop a := by
    have := List.take_append_drop (m - a) (l.drop a)
    rwa [List.drop_drop, show a + (m - a) = m by omega] at this
  rw [e1, e2, List.take_append_drop]
/-- The merge in place, of the runs from a to m and from m to b. -/
def symM [Inhabited α] (lt : α → α → Bool) : Nat → List α → Nat → Nat → Nat → List α
  | 0, l, _, _, _ => l
  | k + 1, l, a, m, b =>
    if m - a = 1 then rot l a m (bsearch (fun h => lt l[h]! l[a]!) (b - m) m b)
    else if b - m = 1 then rot l (bsearch (fun h => !lt l[m]! l[h]!) (m - a) a m) m b
    else
      (fun mid => (fun s => (fun e => (fun l1 => (fun l2 => if mid < e ∧ e < b then symM lt k l2 mid e b else l2) (if a < s ∧ s < mid then symM lt k l1 a s mid else l1))
        (if s < m ∧ m < e then rot l s m e else l)) (mid + m - s))
        (if m > mid then bsearch (fun c => !lt l[mid + m - 1 - c]! l[c]!) (b - a) (mid + m - b) mid else bsearch (fun c => !lt l[mid + m - 1 - c]! l[c]!) (b - a) a m)) ((a + b) / 2)
theorem at_L [Inhabited α] (P L R Q : List α) (i : Nat) (h : i < L.length) : (P ++ (L ++ (R ++ Q)))[P.length + i]! = L[i] := by
  rw [getElem!_pos _ _ (by simp; omega), List.getElem_append_right (by omega), List.getElem_append_left (by omega)]
  congr 1
  omega
theorem at_R [Inhabited α] (P L R Q : List α) (j : Nat) (h : j < R.length) : (P ++ (L ++ (R ++ Q)))[P.length + L.length + j]! = R[j] := by
  rw [getElem!_pos _ _ (by simp; omega), List.getElem_append_right (by omega), List.getElem_append_right (by omega), List.getElem_append_left (by omega)]
  congr 1
  omega
/-- A run whose last stands ahead of z stands ahead of z. -/
theorem ahead {T : α → α → Prop} (tr : ∀ x y z, T x y → T y z → T x z) {A : List α} (hA : A.Pairwise T) (z : α) (h : (hp : 0 < A.length) → T (A[A.length - 1]'(by omega)) z) : ∀ y ∈ A, T y z := by
  intro y hy
  obtain ⟨i, hi, rfl⟩ := List.mem_iff_getElem.1 hy
  have h2 := h (by omega)
  by_cases e : i = A.length - 1
  · subst e; exact h2
  · exact tr _ _ _ (List.pairwise_iff_getElem.1 hA i (A.length - 1) hi (by omega) (by omega)) h2
theorem behind {T : α → α → Prop} (tr : ∀ x y z, T x y → T y z → T x z) {A : List α} (hA : A.Pairwise T) (z : α) (h : (hp : 0 < A.length) → T z A[0]) : ∀ y ∈ A, T z y := by
  intro y hy
  obtain ⟨i, hi, rfl⟩ := List.mem_iff_getElem.1 hy
  have h2 := h (by omega)
  by_cases e : i = 0
  · subst e; exact h2
  · exact tr _ _ _ h2 (List.pairwise_iff_getElem.1 hA 0 i (by omega) hi (by omega))
def Cross (lt : α → α → Bool) (T : α → α → Prop) (L R : List α) : Prop := ∀ x ∈ L, ∀ y ∈ R, (lt y x = true → T y x) ∧ (lt y x = false → T x y)
theorem four (P L1 L2 R1 R2 Q : List α) (l : List α) (hl : l = P ++ ((L1 ++ L2) ++ ((R1 ++ R2) ++ Q))) (s m e : Nat) (hs : s = P.length + L1.length) (hm : m = s + L2.length) (he : e = m + R1.length) : (if s < m ∧ m < e then rot l s m e else l) = P ++ (L1 ++ (R1 ++ (L2 ++ (R2 ++ Q)))) := by
  subst hl
  by_cases h : s < m ∧ m < e
  · rw [if_pos h]
    have := rot_parts (P ++ L1) L2 R1 (R2 ++ Q)
    rw [List.length_append] at this
    rw [he, hm, hs]
    have e1 : P ++ (L1 ++ L2 ++ (R1 ++ R2 ++ Q)) = P ++ L1 ++ (L2 ++ (R1 ++ (R2 ++ Q))) := by simp
    rw [e1, this]
    simp
  · rw [if_neg h]
    by_cases h2 : L2 = []
    · subst h2; simp
    · have : R1 = [] := by
        cases R1 with
        | nil => rfl
        | cons x xs =>
          exfalso
          apply h
          have := List.length_pos_iff.2 h2
          simp only [List.length_cons] at he
          omega
      subst this
      simp
theorem symM_ok [Inhabited α] (lt : α → α → Bool) {T : α → α → Prop} (tr : ∀ x y z, T x y → T y z → T x z) : ∀ (k : Nat) (P L R Q : List α), 0 < L.length → 0 < R.length → L.length + R.length ≤ k → L.Pairwise T → R.Pairwise T → Cross lt T L R →
    ∃ S, symM lt k (P ++ (L ++ (R ++ Q))) P.length (P.length + L.length) (P.length + L.length + R.length) = P ++ (S ++ Q) ∧ S.Perm (L ++ R) ∧ S.Pairwise T := by
  intro k
  induction k with
  | zero => intro P L R Q h1 h2 h3; exact absurd h3 (by omega)
  | succ k ih =>
    intro P L R Q hL hR hk sL sR hX
    obtain ⟨l, hl⟩ : ∃ l, P ++ (L ++ (R ++ Q)) = l := ⟨_, rfl⟩
    rw [hl, symM]
    by_cases c1 : P.length + L.length - P.length = 1
    · rw [if_pos c1]
      obtain ⟨x, rfl⟩ := List.length_eq_one_iff.1 (show L.length = 1 by omega)
      obtain ⟨i, hi⟩ : ∃ i, bsearch (fun h => lt l[h]! l[P.length]!) (P.length + [x].length + R.length - (P.length + [x].length)) (P.length + [x].length) (P.length + [x].length + R.length) = i := ⟨_, rfl⟩
      obtain ⟨b1, b2, b3, b4⟩ := bsearch_spec (fun h => lt l[h]! l[P.length]!) (P.length + [x].length + R.length - (P.length + [x].length)) (P.length + [x].length) (P.length + [x].length + R.length) (by omega) (by omega)
      rw [hi] at b1 b2 b3 b4 ⊢
      obtain ⟨j, rfl⟩ : ∃ j, i = P.length + [x].length + j := ⟨i - (P.length + [x].length), by omega⟩
      have hx : l[P.length]! = x := by
        have := at_L P [x] R Q 0 (by simp)
        rw [hl] at this
        exact this
      have hRj : ∀ j' (hj : j' < R.length), l[P.length + [x].length + j']! = R[j'] := fun j' hj => by rw [← hl]; exact at_R P [x] R Q j' hj
      have hsp : R = R.take j ++ R.drop j := (List.take_append_drop j R).symm
      have hjl : (R.take j).length = j := by rw [List.length_take]; omega
      refine ⟨R.take j ++ ([x] ++ R.drop j), ?_, ?_, ?_⟩
      · have := rot_parts P [x] (R.take j) (R.drop j ++ Q)
        rw [hjl] at this
        rw [← hl, show P ++ ([x] ++ (R ++ Q)) = P ++ ([x] ++ (R.take j ++ (R.drop j ++ Q))) by rw [← List.append_assoc (R.take j), ← hsp], this]
        simp
      · have : (R.take j ++ ([x] ++ R.drop j)).Perm ([x] ++ (R.take j ++ R.drop j)) := by
          rw [← List.append_assoc, ← List.append_assoc]
          exact List.Perm.append_right _ List.perm_append_comm
        rwa [← hsp] at this
      · have sR' := sR
        rw [hsp] at sR'
        obtain ⟨s1, s2, s3⟩ := List.pairwise_append.1 sR'
        have up : ∀ y ∈ R.take j, T y x := ahead tr s1 x (fun hp => by
          rw [hjl] at hp
          have h3 := b3 (by omega)
          rw [show P.length + [x].length + j - 1 = P.length + [x].length + (j - 1) by omega] at h3
          simp only [hx, hRj (j - 1) (by omega)] at h3
          have := (hX x (by simp) R[j - 1] (List.getElem_mem _)).1 h3
          simp only [hjl, List.getElem_take]
          exact this)
        have dn : ∀ y ∈ R.drop j, T x y := behind tr s2 x (fun hp => by
          rw [List.length_drop] at hp
          have h4 := b4 (by omega)
          simp only [hx, hRj j (by omega)] at h4
          have := (hX x (by simp) R[j] (List.getElem_mem _)).2 h4
          simp only [List.getElem_drop, Nat.add_zero]
          exact this)
        refine List.pairwise_append.2 ⟨s1, List.pairwise_append.2 ⟨List.pairwise_singleton _ _, s2, fun a ha b hb => by rw [List.mem_singleton.1 ha]; exact dn b hb⟩, fun a ha b hb => ?_⟩
        rcases List.mem_append.1 hb with hb | hb
        · rw [List.mem_singleton.1 hb]; exact up a ha
        · exact s3 a ha b hb
    · rw [if_neg c1]
      by_cases c2 : P.length + L.length + R.length - (P.length + L.length) = 1
      · rw [if_pos c2]
        obtain ⟨y, rfl⟩ := List.length_eq_one_iff.1 (show R.length = 1 by omega)
        obtain ⟨i, hi⟩ : ∃ i, bsearch (fun h => !lt l[P.length + L.length]! l[h]!) (P.length + L.length - P.length) P.length (P.length + L.length) = i := ⟨_, rfl⟩
        obtain ⟨b1, b2, b3, b4⟩ := bsearch_spec (fun h => !lt l[P.length + L.length]! l[h]!) (P.length + L.length - P.length) P.length (P.length + L.length) (by omega) (by omega)
        rw [hi] at b1 b2 b3 b4 ⊢
        obtain ⟨j, rfl⟩ : ∃ j, i = P.length + j := ⟨i - P.length, by omega⟩
        have hy : l[P.length + L.length]! = y := by
          have := at_R P L [y] Q 0 (by simp)
          rw [hl] at this
          exact this
        have hLj : ∀ j' (hj : j' < L.length), l[P.length + j']! = L[j'] := fun j' hj => by rw [← hl]; exact at_L P L [y] Q j' hj
        have hsp : L = L.take j ++ L.drop j := (List.take_append_drop j L).symm
        have hjl : (L.take j).length = j := by rw [List.length_take]; omega
        have hdl : (L.drop j).length = L.length - j := List.length_drop
        refine ⟨L.take j ++ ([y] ++ L.drop j), ?_, ?_, ?_⟩
        · have := rot_parts (P ++ L.take j) (L.drop j) [y] Q
          rw [List.length_append, hjl, hdl, show P.length + j + (L.length - j) = P.length + L.length by omega] at this
          have e1 : P ++ (L ++ ([y] ++ Q)) = P ++ L.take j ++ (L.drop j ++ ([y] ++ Q)) := by
            rw [List.append_assoc, ← List.append_assoc (L.take j), ← hsp]
          rw [← hl, e1]
          refine this.trans ?_
          simp
        · have : (L.take j ++ ([y] ++ L.drop j)).Perm ((L.take j ++ L.drop j) ++ [y]) := by
            rw [List.append_assoc]
            exact List.Perm.append_left _ List.perm_append_comm
          rwa [← hsp] at this
        · have sL' := sL
          rw [hsp] at sL'
          obtain ⟨s1, s2, s3⟩ := List.pairwise_append.1 sL'
          have up : ∀ x ∈ L.take j, T x y := ahead tr s1 y (fun hp => by
            rw [hjl] at hp
            have h3 := b3 (by omega)
            rw [show P.length + j - 1 = P.length + (j - 1) by omega] at h3
            simp only [hy, hLj (j - 1) (by omega), Bool.not_eq_true'] at h3
            have := (hX L[j - 1] (List.getElem_mem _) y (by simp)).2 h3
            simp only [hjl, List.getElem_take]
            exact this)
          have dn : ∀ x ∈ L.drop j, T y x := behind tr s2 y (fun hp => by
            rw [hdl] at hp
            have h4 := b4 (by omega)
            simp only [hy, hLj j (by omega), Bool.not_eq_false'] at h4
            have := (hX L[j] (List.getElem_mem _) y (by simp)).1 h4
            simp only [List.getElem_drop, Nat.add_zero]
            exact this)
          refine List.pairwise_append.2 ⟨s1, List.pairwise_append.2 ⟨List.pairwise_singleton _ _, s2, fun a ha b hb => by rw [List.mem_singleton.1 ha]; exact dn b hb⟩, fun a ha b hb => ?_⟩
          rcases List.mem_append.1 hb with hb | hb
          · rw [List.mem_singleton.1 hb]; exact up a ha
          · exact s3 a ha b hb
      · rw [if_neg c2]
        obtain ⟨a, ha⟩ : ∃ a, P.length = a := ⟨_, rfl⟩
        obtain ⟨m, hm⟩ : ∃ m, a + L.length = m := ⟨_, rfl⟩
        obtain ⟨b, hb⟩ : ∃ b, m + R.length = b := ⟨_, rfl⟩
        rw [ha, hm] at c1
        rw [ha, hm, hb] at c2 ⊢
        obtain ⟨mid, hmid⟩ : ∃ z, (a + b) / 2 = z := ⟨_, rfl⟩
        rw [hmid]
        dsimp only
        obtain ⟨s, hs⟩ : ∃ s, (if m > mid then bsearch (fun c => !lt l[mid + m - 1 - c]! l[c]!) (b - a) (mid + m - b) mid else bsearch (fun c => !lt l[mid + m - 1 - c]! l[c]!) (b - a) a m) = s := ⟨_, rfl⟩
        rw [hs]
        have key : a ≤ s ∧ s ≤ m ∧ m ≤ mid + m - s ∧ mid + m - s ≤ b ∧ s ≤ mid + m ∧ (a < s → mid + m - s < b → (!lt l[mid + m - 1 - (s - 1)]! l[s - 1]!) = true) ∧ (s < m → m < mid + m - s → (!lt l[mid + m - 1 - s]! l[s]!) = false) := by
          by_cases hgt : m > mid
          · rw [if_pos hgt] at hs
            obtain ⟨b1, b2, b3, b4⟩ := bsearch_spec (fun c => !lt l[mid + m - 1 - c]! l[c]!) (b - a) (mid + m - b) mid (by omega) (by omega)
            rw [hs] at b1 b2 b3 b4
            exact ⟨by omega, by omega, by omega, by omega, by omega, fun h1 h2 => b3 (by omega), fun h1 h2 => b4 (by omega)⟩
          · rw [if_neg hgt] at hs
            obtain ⟨b1, b2, b3, b4⟩ := bsearch_spec (fun c => !lt l[mid + m - 1 - c]! l[c]!) (b - a) a m (by omega) (by omega)
            rw [hs] at b1 b2 b3 b4
            exact ⟨b1, b2, by omega, by omega, by omega, fun h1 h2 => b3 h1, fun h1 h2 => b4 h1⟩
        obtain ⟨k1, k2, k3, k4, k5, kF, kG⟩ := key
        obtain ⟨e, he⟩ : ∃ e, mid + m - s = e := ⟨_, rfl⟩
        rw [he] at k3 k4 kF kG ⊢
        obtain ⟨L1, L2, hLs, hL1⟩ : ∃ L1 L2, L = L1 ++ L2 ∧ L1.length = s - a := ⟨L.take (s - a), L.drop (s - a), (List.take_append_drop _ L).symm, by rw [List.length_take]; omega⟩
        obtain ⟨R1, R2, hRs, hR1⟩ : ∃ R1 R2, R = R1 ++ R2 ∧ R1.length = e - m := ⟨R.take (e - m), R.drop (e - m), (List.take_append_drop _ R).symm, by rw [List.length_take]; omega⟩
        subst hLs
        subst hRs
        have hL2 : L2.length = m - s := by rw [List.length_append] at hm; omega
        have hR2 : R2.length = b - e := by rw [List.length_append] at hb; omega
        have g1 : (hp : 0 < L1.length) → l[s - 1]! = L1[L1.length - 1]'(by omega) := fun hp => by
          rw [← hl, show s - 1 = P.length + (L1.length - 1) by omega, at_L P (L1 ++ L2) (R1 ++ R2) Q _ (by rw [List.length_append]; omega), List.getElem_append_left (by omega)]
        have g2 : (hq : 0 < R2.length) → l[e]! = R2[0] := fun hq => by
          rw [← hl, show e = P.length + (L1 ++ L2).length + R1.length by omega, at_R P (L1 ++ L2) (R1 ++ R2) Q _ (by rw [List.length_append]; omega), List.getElem_append_right (by omega)]
          congr 1
          omega
        have g3 : (hp : 0 < R1.length) → l[e - 1]! = R1[R1.length - 1]'(by omega) := fun hp => by
          rw [← hl, show e - 1 = P.length + (L1 ++ L2).length + (R1.length - 1) by omega, at_R P (L1 ++ L2) (R1 ++ R2) Q _ (by rw [List.length_append]; omega), List.getElem_append_left (by omega)]
        have g4 : (hq : 0 < L2.length) → l[s]! = L2[0] := fun hq => by
          rw [← hl, show s = P.length + L1.length by omega, at_L P (L1 ++ L2) (R1 ++ R2) Q _ (by rw [List.length_append]; omega), List.getElem_append_right (by omega)]
          congr 1
          omega
        have x1 : (hp : 0 < L1.length) → (hq : 0 < R2.length) → T (L1[L1.length - 1]'(by omega)) R2[0] := fun hp hq => by
          have h1 := kF (by omega) (by omega)
          rw [show mid + m - 1 - (s - 1) = e by omega, g2 hq, g1 hp] at h1
          have h2 : lt R2[0] (L1[L1.length - 1]'(by omega)) = false := by simpa using h1
          exact (hX _ (List.mem_append.2 (.inl (List.getElem_mem _))) _ (List.mem_append.2 (.inr (List.getElem_mem _)))).2 h2
        have x2 : (hp : 0 < R1.length) → (hq : 0 < L2.length) → T (R1[R1.length - 1]'(by omega)) L2[0] := fun hp hq => by
          have h1 := kG (by omega) (by omega)
          rw [show mid + m - 1 - s = e - 1 by omega, g3 hp, g4 hq] at h1
          have h2 : lt (R1[R1.length - 1]'(by omega)) L2[0] = true := by simpa using h1
          exact (hX _ (List.mem_append.2 (.inr (List.getElem_mem _))) _ (List.mem_append.2 (.inl (List.getElem_mem _)))).1 h2
        clear g1 g2 g3 g4 kF kG hs
        obtain ⟨p1, p2, p3⟩ := List.pairwise_append.1 sL
        obtain ⟨q1, q2, q3⟩ := List.pairwise_append.1 sR
        have y1 : ∀ x ∈ L1, ∀ y ∈ R2, T x y := fun x hx y hy => by
          have h1 : 0 < L1.length := List.length_pos_of_mem hx
          exact ahead tr p1 y (fun hp => behind tr q2 _ (fun hq => x1 hp hq) y hy) x hx
        have y2 : ∀ x ∈ R1, ∀ y ∈ L2, T x y := fun x hx y hy => ahead tr q1 y (fun hp => behind tr p2 _ (fun hq => x2 hp hq) y hy) x hx
        have hX1 : Cross lt T L1 R1 := fun x hx y hy => hX x (List.mem_append.2 (.inl hx)) y (List.mem_append.2 (.inl hy))
        have hX2 : Cross lt T L2 R2 := fun x hx y hy => hX x (List.mem_append.2 (.inr hx)) y (List.mem_append.2 (.inr hy))
        rw [four P L1 L2 R1 R2 Q l hl.symm s m e (by omega) (by omega) (by omega)]
        have t1 : ∃ S1, (if a < s ∧ s < mid then symM lt k (P ++ (L1 ++ (R1 ++ (L2 ++ (R2 ++ Q))))) a s mid else P ++ (L1 ++ (R1 ++ (L2 ++ (R2 ++ Q))))) = P ++ (S1 ++ (L2 ++ (R2 ++ Q))) ∧ S1.Perm (L1 ++ R1) ∧ S1.Pairwise T := by
          by_cases h : a < s ∧ s < mid
          · rw [if_pos h]
            have := ih P L1 R1 (L2 ++ (R2 ++ Q)) (by omega) (by omega) (by omega) p1 q1 hX1
            rwa [ha, show a + L1.length = s by omega, show s + R1.length = mid by omega] at this
          · rw [if_neg h]
            refine ⟨L1 ++ R1, by simp, List.Perm.refl _, ?_⟩
            by_cases h2 : L1 = []
            · subst h2; simpa using q1
            · have : R1 = [] := by
                have := List.length_pos_iff.2 h2
                exact List.length_eq_zero_iff.1 (by omega)
              subst this
              simpa using p1
        obtain ⟨S1, hS1, pm1, so1⟩ := t1
        rw [hS1]
        have hlS1 := pm1.length_eq
        rw [List.length_append] at hlS1
        have t2 : ∃ S2, (if mid < e ∧ e < b then symM lt k (P ++ (S1 ++ (L2 ++ (R2 ++ Q)))) mid e b else P ++ (S1 ++ (L2 ++ (R2 ++ Q)))) = P ++ (S1 ++ (S2 ++ Q)) ∧ S2.Perm (L2 ++ R2) ∧ S2.Pairwise T := by
          by_cases h : mid < e ∧ e < b
          · rw [if_pos h]
            have := ih (P ++ S1) L2 R2 Q (by omega) (by omega) (by omega) p2 q2 hX2
            rw [List.length_append, ha, show a + S1.length = mid by omega, show mid + L2.length = e by omega, show e + R2.length = b by omega] at this
            obtain ⟨S2, h1, h2, h3⟩ := this
            refine ⟨S2, ?_, h2, h3⟩
            rw [List.append_assoc] at h1
            rw [h1, List.append_assoc]
          · rw [if_neg h]
            refine ⟨L2 ++ R2, by simp, List.Perm.refl _, ?_⟩
            by_cases h2 : L2 = []
            · subst h2; simpa using q2
            · have : R2 = [] := by
                have := List.length_pos_iff.2 h2
                exact List.length_eq_zero_iff.1 (by omega)
              subst this
              simpa using p2
        obtain ⟨S2, hS2, pm2, so2⟩ := t2
        refine ⟨S1 ++ S2, by rw [hS2]; simp, ?_, ?_⟩
        · refine (List.Perm.append pm1 pm2).trans ?_
          have h1 : (L1 ++ R1 ++ (L2 ++ R2)).Perm (L1 ++ (L2 ++ (R1 ++ R2))) := by
            rw [List.append_assoc]
            refine List.Perm.append_left _ ?_
            rw [← List.append_assoc, ← List.append_assoc]
            exact List.Perm.append_right _ List.perm_append_comm
          refine h1.trans ?_
          rw [List.append_assoc]
        · refine List.pairwise_append.2 ⟨so1, so2, fun x hx y hy => ?_⟩
          rcases List.mem_append.1 (pm1.mem_iff.1 hx) with hx | hx <;> rcases List.mem_append.1 (pm2.mem_iff.1 hy) with hy | hy
          · exact p3 x hx y hy
          · exact y1 x hx y hy
          · exact y2 x hx y hy
          · exact q3 x hx y hy
/-- How the test agrees with the order, of one that stands ahead of another. -/
def Agree (lt : α → α → Bool) (T : α → α → Prop) (y x : α) : Prop := (lt x y = true → T x y) ∧ (lt x y = false → T y x)
/-- One more, put into a run that is told from its end. -/
def insR (lt : α → α → Bool) (x : α) : List α → List α
  | [] => [x]
  | y :: r => if lt x y = true then y :: insR lt x r else x :: y :: r
def insOne (lt : α → α → Bool) (A : List α) (x : α) : List α := (insR lt x A.reverse).reverse
theorem insOne_nil (lt : α → α → Bool) (x : α) : insOne lt [] x = [x] := rfl
theorem insOne_go (lt : α → α → Bool) (A : List α) (y x : α) (h : lt x y = true) : insOne lt (A ++ [y]) x = insOne lt A x ++ [y] := by
  unfold insOne
  rw [List.reverse_append, List.reverse_singleton, List.singleton_append, insR, if_pos h, List.reverse_cons]
theorem insOne_stop (lt : α → α → Bool) (A : List α) (y x : α) (h : ¬ lt x y = true) : insOne lt (A ++ [y]) x = A ++ [y] ++ [x] := by
  unfold insOne
  rw [List.reverse_append, List.reverse_singleton, List.singleton_append, insR, if_neg h]
  simp
theorem insOne_ok (lt : α → α → Bool) {T : α → α → Prop} (tr : ∀ x y z, T x y → T y z → T x z) (x : α) : ∀ (n : Nat) (A : List α), A.length = n → A.Pairwise T → (∀ y ∈ A, Agree lt T y x) → (insOne lt A x).Perm (A ++ [x]) ∧ (insOne lt A x).Pairwise T
  | 0, A, hn, _, _ => by
    obtain rfl := List.length_eq_zero_iff.1 hn
    exact ⟨List.Perm.refl _, by rw [insOne_nil]; exact List.pairwise_singleton _ _⟩
  | n + 1, A, hn, sA, hA => by
    obtain ⟨B, y, rfl⟩ : ∃ B y, A = B ++ [y] := ⟨A.dropLast, A.getLast (by intro e; rw [e] at hn; cases hn), (List.dropLast_concat_getLast _).symm⟩
    obtain ⟨s1, s2, s3⟩ := List.pairwise_append.1 sA
    have hy := hA y (by simp)
    by_cases h : lt x y = true
    · rw [insOne_go lt B y x h]
      obtain ⟨p, q⟩ := insOne_ok lt tr x n B (by simpa using hn) s1 (fun z hz => hA z (by simp [hz]))
      refine ⟨?_, List.pairwise_append.2 ⟨q, List.pairwise_singleton _ _, fun a ha b hb => ?_⟩⟩
      · refine (List.Perm.append_right [y] p).trans ?_
        rw [List.append_assoc, List.append_assoc]
        exact List.Perm.append_left _ List.perm_append_comm
      · obtain rfl := List.mem_singleton.1 hb
        rcases List.mem_append.1 (p.mem_iff.1 ha) with ha | ha
        · exact s3 a ha b (by simp)
        · rw [List.mem_singleton.1 ha]; exact hy.1 h
    · rw [insOne_stop lt B y x h]
      refine ⟨List.Perm.refl _, List.pairwise_append.2 ⟨sA, List.pairwise_singleton _ _, fun a ha b hb => ?_⟩⟩
      obtain rfl := List.mem_singleton.1 hb
      have hyx := hy.2 (by simpa using h)
      rcases List.mem_append.1 ha with ha | ha
      · exact tr _ _ _ (s3 a ha y (by simp)) hyx
      · rw [List.mem_singleton.1 ha]; exact hyx
/-- A block, put in one by one. -/
def insAll (lt : α → α → Bool) (B : List α) : List α := B.foldl (insOne lt) []
theorem insFold_ok (lt : α → α → Bool) {T : α → α → Prop} (tr : ∀ x y z, T x y → T y z → T x z) : ∀ (B A : List α), A.Pairwise T → (∀ y ∈ A, ∀ x ∈ B, Agree lt T y x) → B.Pairwise (Agree lt T) → (B.foldl (insOne lt) A).Perm (A ++ B) ∧ (B.foldl (insOne lt) A).Pairwise T
  | [], A, sA, _, _ => by simpa using sA
  | x :: B, A, sA, hA, hB => by
    obtain ⟨b1, b2⟩ := List.pairwise_cons.1 hB
    obtain ⟨p, q⟩ := insOne_ok lt tr x A.length A rfl sA (fun y hy => hA y hy x (by simp))
    obtain ⟨p2, q2⟩ := insFold_ok lt tr B (insOne lt A x) q (fun y hy z hz => by
      rcases List.mem_append.1 (p.mem_iff.1 hy) with hy | hy
      · exact hA y hy z (by simp [hz])
      · rw [List.mem_singleton.1 hy]; exact b1 z hz) b2
    rw [List.foldl_cons]
    refine ⟨p2.trans ?_, q2⟩
    refine (List.Perm.append_right B p).trans ?_
    rw [List.append_assoc]
    rfl
theorem insAll_ok (lt : α → α → Bool) {T : α → α → Prop} (tr : ∀ x y z, T x y → T y z → T x z) (B : List α) (hB : B.Pairwise (Agree lt T)) : (insAll lt B).Perm B ∧ (insAll lt B).Pairwise T := by
  have := insFold_ok lt tr B [] List.Pairwise.nil (fun y hy => by simp at hy) hB
  unfold insAll
  simpa using this
/-- The stable sort of up to 39 things. -/
def stab [Inhabited α] (lt : α → α → Bool) (l : List α) : List α :=
  if 20 < l.length then symM lt 50 (insAll lt (l.take 20) ++ insAll lt (l.drop 20)) 0 20 l.length
  else if l.length = 20 then insAll lt l
  else insAll lt l
theorem stab_ok [Inhabited α] (lt : α → α → Bool) {T : α → α → Prop} (tr : ∀ x y z, T x y → T y z → T x z) (l : List α) (hl : l.length ≤ 39) (hA : l.Pairwise (Agree lt T)) : (stab lt l).Perm l ∧ (stab lt l).Pairwise T := by
  unfold stab
  by_cases h : 20 < l.length
  · rw [if_pos h]
    have hs : l = l.take 20 ++ l.drop 20 := (List.take_append_drop 20 l).symm
    have hA' := hA
    rw [hs] at hA'
    obtain ⟨a1, a2, a3⟩ := List.pairwise_append.1 hA'
    obtain ⟨p1, q1⟩ := insAll_ok lt tr _ a1
    obtain ⟨p2, q2⟩ := insAll_ok lt tr _ a2
    have l1 : (insAll lt (l.take 20)).length = 20 := by rw [p1.length_eq, List.length_take]; omega
    have l2 : (insAll lt (l.drop 20)).length = l.length - 20 := by rw [p2.length_eq, List.length_drop]
    obtain ⟨S, e, p, q⟩ := symM_ok lt tr 50 [] (insAll lt (l.take 20)) (insAll lt (l.drop 20)) [] (by omega) (by omega) (by omega) q1 q2 (fun x hx y hy => a3 x (p1.mem_iff.1 hx) y (p2.mem_iff.1 hy))
    simp only [List.nil_append, List.append_nil, List.length_nil, Nat.zero_add, l1, l2] at e
    rw [show 20 + (l.length - 20) = l.length by omega] at e
    rw [e]
    refine ⟨p.trans ?_, q⟩
    have := List.Perm.append p1 p2
    rwa [← hs] at this
  · rw [if_neg h]
    have := insAll_ok lt tr l hA
    by_cases h2 : l.length = 20
    · rw [if_pos h2]; exact this
    · rw [if_neg h2]; exact this
end
end Go.Proofs.Ythlnpbdjblocfaa.Srt

namespace Go.Proofs.Ythlnpbdjblocfaa.Srt
set_option linter.unusedVariables false
set_option linter.unusedSimpArgs false
section
variable {α : Type}
theorem rot_perm (l : List α) (a m b : Nat) (h1 : a ≤ m) (h2 : m ≤ b) (h3 : b ≤ l.length) : (rot l a m b).Perm l := by
  obtain ⟨P, X, Y, Q, rfl, hP, hX, hY⟩ := parts l a m b h1 h2 h3
  have em : m = P.length + X.length := by omega
  have eb : b = P.length + X.length + Y.length := by omega
  rw [eb, em, ← hP, rot_parts]
  refine List.Perm.append_left P ?_
  rw [← List.append_assoc, ← List.append_assoc]
  exact List.Perm.append_right Q List.perm_append_comm
def symR (l : List α) (s m e : Nat) : List α := if s < m ∧ m < e then rot l s m e else l
theorem symR_perm (l : List α) (s m e : Nat) (h : e ≤ l.length) : (symR l s m e).Perm l := by
  unfold symR
  by_cases c : s < m ∧ m < e
  · rw [if_pos c]
    exact rot_perm l s m e (by omega) (by omega) h
  · rw [if_neg c]
variable [Inhabited α]
def symA (lt : α → α → Bool) (k : Nat) (l : List α) (a s m : Nat) : List α := if a < s ∧ s < m then symM lt k l a s m else l
def symP (lt : α → α → Bool) (l : List α) (q : Nat) : Nat → Bool := fun c => !lt l[q - 1 - c]! l[c]!
def symT (lt : α → α → Bool) (l : List α) (a m b mid : Nat) : Nat := if m > mid then bsearch (symP lt l (mid + m)) (b - a) (mid + m - b) mid else bsearch (symP lt l (mid + m)) (b - a) a m
theorem symM_gen (lt : α → α → Bool) (k : Nat) (l : List α) (a m b mid T e : Nat) (h1 : m - a ≠ 1) (h2 : b - m ≠ 1) (hm : (a + b) / 2 = mid) (hT : symT lt l a m b mid = T) (he : mid + m - T = e) :
    symM lt (k + 1) l a m b = symA lt k (symA lt k (symR l T m e) a T mid) mid e b := by
  rw [symM, if_neg h1, if_neg h2, hm]
  subst he
  subst hT
  rfl
theorem symT_bounds (lt : α → α → Bool) (l : List α) (a m b mid : Nat) (h1 : a < m) (h2 : m < b) (hm : (a + b) / 2 = mid) : a ≤ symT lt l a m b mid ∧ symT lt l a m b mid ≤ m ∧ symT lt l a m b mid ≤ mid ∧ m ≤ mid + m - symT lt l a m b mid ∧ mid ≤ mid + m - symT lt l a m b mid ∧ mid + m - symT lt l a m b mid ≤ b := by
  unfold symT
  by_cases c : m > mid
  · rw [if_pos c]
    have := bsearch_spec (symP lt l (mid + m)) (b - a) (mid + m - b) mid (by omega) (by omega)
    omega
  · rw [if_neg c]
    have := bsearch_spec (symP lt l (mid + m)) (b - a) a m (by omega) (by omega)
    omega
theorem symM_perm (lt : α → α → Bool) : ∀ (k : Nat) (l : List α) (a m b : Nat), a < m → m < b → b ≤ l.length → (symM lt k l a m b).Perm l
  | 0, l, a, m, b, _, _, _ => List.Perm.refl _
  | k + 1, l, a, m, b, h1, h2, h3 => by
    by_cases c1 : m - a = 1
    · rw [symM, if_pos c1]
      have := bsearch_spec (fun h => lt l[h]! l[a]!) (b - m) m b (by omega) (by omega)
      exact rot_perm l a m _ (by omega) (by omega) (by omega)
    · by_cases c2 : b - m = 1
      · rw [symM, if_neg c1, if_pos c2]
        have := bsearch_spec (fun h => !lt l[m]! l[h]!) (m - a) a m (by omega) (by omega)
        exact rot_perm l _ m b (by omega) (by omega) (by omega)
      · rw [symM_gen lt k l a m b _ _ _ c1 c2 rfl rfl rfl]
        obtain ⟨t1, t2, t3, t4, t5, t6⟩ := symT_bounds lt l a m b _ h1 h2 rfl
        have p1 := symR_perm l (symT lt l a m b ((a + b) / 2)) m ((a + b) / 2 + m - symT lt l a m b ((a + b) / 2)) (by omega)
        have sA : ∀ (l' : List α) (x y z : Nat), z ≤ l'.length → (symA lt k l' x y z).Perm l' := by
          intro l' x y z hz
          unfold symA
          by_cases c : x < y ∧ y < z
          · rw [if_pos c]
            exact symM_perm lt k l' x y z c.1 c.2 hz
          · rw [if_neg c]
        have p2 := sA _ a (symT lt l a m b ((a + b) / 2)) ((a + b) / 2) (by rw [p1.length_eq]; omega)
        exact (sA _ _ _ b (by rw [p2.length_eq, p1.length_eq]; exact h3)).trans (p2.trans p1)
theorem symA_perm (lt : α → α → Bool) (k : Nat) (l : List α) (x y z : Nat) (hz : z ≤ l.length) : (symA lt k l x y z).Perm l := by
  unfold symA
  by_cases c : x < y ∧ y < z
  · rw [if_pos c]
    exact symM_perm lt k l x y z c.1 c.2 hz
  · rw [if_neg c]
end
end Go.Proofs.Ythlnpbdjblocfaa.Srt

namespace Go.Proofs.Ythlnpbdjblocfaa.P
open Go.RowKit Go.Proofs.Ythlnpbdjblocfaa.Srt Go.Proofs.YthlnpbdjblocfaaW.PrintWords Go.Proofs.YthlnpbdjblocfaaW.PrintLast Go.Proofs.YthlnpbdjblocfaaW.PrintMore Go.Proofs.Ythlnpbdjblocfaa.Pure
set_option linter.unusedVariables false
set_option linter.unusedSimpArgs false
section
/-- What a call keeps: all blocks but those of S, and the streams. -/
structure KepB (w W : World) (S : Nat → Prop) : Prop where
  kept : Kept w W S
  os : W.os = w.os
  tape : W.tape = w.tape
  output : W.output = w.output
theorem KepB.refl (w : World) (S : Nat → Prop) : KepB w w S := ⟨Kept.refl w S, rfl, rfl, rfl⟩
theorem KepB.drew {w W : World} {S : Nat → Prop} (h : KepB w W S) : KepB w W.drew S := ⟨Kept.drew h.kept, h.os, h.tape, h.output⟩
theorem KepB.below {w W W2 : World} {S : Nat → Prop} (h : KepB w W S) (hb : Below W.heap.size W W2) : KepB w W2 S := ⟨Kept.below h.kept hb, hb.os.trans h.os, hb.tape.trans h.tape, hb.output.trans h.output⟩
theorem KepB.setCell {w W : World} {S : Nat → Prop} (h : KepB w W S) {p : Addr} (hp : S p.block ∨ w.heap.size ≤ p.block) (u : Value) : KepB w (W.setCell p u) S := ⟨Kept.setCell h.kept hp u, h.os, h.tape, h.output⟩
/-- A line in memory: its row of two, and what the row says. -/
structure El where
  g : Nat
  c : Nat
  p : Nat × Nat
instance : Inhabited El := ⟨⟨0, 0, (0, 0)⟩⟩
def encE (e : El) : Value := .slice (some ⟨e.g, 0, none⟩) 2 e.c
theorem oneE (e : El) : (encE e).oneCell' = true := rfl
abbrev kdE : Kd El := Kd.scalar encE oneE
theorem cell_any {W : World} {base g n c : Nat} {ok : Nat → Prop} {xs : List El} (h : kdE.R 35 W base ok (.slice (some ⟨g, 0, none⟩) n c) xs) (i : Nat) (hi : i < n) : W.cell? ⟨g, i, none⟩ = some (encE xs[i]!) ∧ W.frozen? ⟨g, i, none⟩ = false := by
  have := Kd.R_celln default h (i : Int) (by omega) (by omega)
  have e : rdOf default xs (i : Int) = xs[i]! := by
    unfold rdOf
    rw [Int.toNat_natCast, List.getElem!_eq_getElem?_getD, List.getD_eq_getElem?_getD]
  rw [Int.toNat_natCast, e] at this
  exact this
theorem put_any {W : World} {base g n c : Nat} {ok : Nat → Prop} {xs : List El} (h : kdE.R 35 W base ok (.slice (some ⟨g, 0, none⟩) n c) xs) (i : Nat) (x : El) : kdE.R 35 (W.setCell ⟨g, i, none⟩ (encE x)) base ok (.slice (some ⟨g, 0, none⟩) n c) (xs.set i x) := by
  have := (Kd.R_putg h (i : Int) x).1
  rw [Int.toNat_natCast] at this
  exact this
def swp (l : List El) (i j : Nat)   : List El := (l.set i l[j]!).set j l[i]!
def swapR (l : List El) (a b : Nat) : Nat → List El
  | 0 => l
  | n + 1 => swp (swapR l a b n) (a + n) (b + n)
theorem swapR_len (l : List El) (a b : Nat) : ∀ n, (swapR l a b n).length = l.length
  | 0 => rfl
  | n + 1 => by rw [swapR, swp, List.length_set, List.length_set, swapR_len l a b n]
set_option maxHeartbeats 4000000 in
set_option maxRecDepth 100000 in
theorem swapRange_calls (g L c base : Nat) (ok : Nat → Prop) (W0 W : World) (l : List El) (fv : Value) (a b n : Nat) (hab : a + n ≤ b) (hb : b + n ≤ L) (hL : L ≤ 1000) (hr : kdE.R 35 W base ok (.slice (some ⟨g, 0, none⟩) L c) l) (hk : KepB W0 W (fun k => k = g)) :
    Calls Try.prog 75 #[.slice (some ⟨g, 0, none⟩) L c, .int .i64 (a : Int), .int .i64 (b : Int), .int .i64 (n : Int), fv] W fun e W' => e = .returned (.tuple #[]) ∧ kdE.R 35 W' base ok (.slice (some ⟨g, 0, none⟩) L c) (swapR l a b n) ∧ KepB W0 W' (fun k => k = g) := by
  have HR := Aside0.mk hr
  have HK := Aside0.mk hk
  clear hr hk
  go_enter Try.func75, Try.ntmps75
  go_wp2
  go_loopg [10] (n + 1) (fun kq v10 w' => ∃ i : Nat, v10 = .int .i64 (i : Int) ∧ Aside0 (i ≤ n) ∧ Aside0 (n - i ≤ kq) ∧ Aside0 (kdE.R 35 w' base ok (.slice (some ⟨g, 0, none⟩) L c) (swapR l a b i)) ∧ Aside0 (KepB W0 w' (fun k => k = g)))
  case atStart => exact ⟨0, rfl, ⟨Nat.zero_le _⟩, ⟨by omega⟩, HR, HK⟩
  case round =>
    clear HR HK
    obtain ⟨i, rfl, hi, hq, HR, HK⟩ := hrel
    by_cases hlt : i < n
    · have c0 : decide ((i : Int) < (n : Int)) = true := decide_eq_true (by omega)
      have c00 : decide (i < n) = true := decide_eq_true hlt
      obtain ⟨p, hp⟩ : ∃ p, a + i = p := ⟨_, rfl⟩
      obtain ⟨q, hq2⟩ : ∃ q, b + i = q := ⟨_, rfl⟩
      have hs : swapR l a b (i + 1) = ((swapR l a b i).set p (swapR l a b i)[q]!).set q (swapR l a b i)[p]! := by rw [← hp, ← hq2]; rfl
      obtain ⟨hx, hfx⟩ := cell_any HR.out p (by omega)
      obtain ⟨hy, hfy⟩ := cell_any HR.out q (by omega)
      have HP := Aside0.mk (put_any (put_any HR.out p (swapR l a b i)[q]!) q (swapR l a b i)[p]!)
      rw [← hs] at HP
      obtain ⟨⟨xg, xc, xp⟩, hex⟩ : ∃ z, (swapR l a b i)[p]! = z := ⟨_, rfl⟩
      obtain ⟨⟨yg, yc, yp⟩, hey⟩ : ∃ z, (swapR l a b i)[q]! = z := ⟨_, rfl⟩
      rw [hex, hey] at HP
      rw [hex] at hx
      rw [hey] at hy
      replace hx : wr.cell? ⟨g, p, none⟩ = some (.slice (some ⟨xg, 0, none⟩) 2 xc) := hx
      replace hy : wr.cell? ⟨g, q, none⟩ = some (.slice (some ⟨yg, 0, none⟩) 2 yc) := hy
      have hpq : ¬ p = q := by omega
      have hqp : ¬ q = p := by omega
      have p0 : (0 : Int) ≤ (p : Int) := by omega
      have q0 : (0 : Int) ≤ (q : Int) := by omega
      have p1 : (p : Int) < (L : Int) := by omega
      have q1 : (q : Int) < (L : Int) := by omega
      have p2 : p < L := by omega
      have q2 : q < L := by omega
      have hw1 : wrap64 ((a : Int) + (i : Int)) = (p : Int) := by rw [w64 (by omega) (by omega)]; omega
      have W1 := Aside0.mk hw1
      clear hw1
      have hw2 : wrap64 ((b : Int) + (i : Int)) = (q : Int) := by rw [w64 (by omega) (by omega)]; omega
      have W2 := Aside0.mk hw2
      clear hw2
      have HQ := Aside0.mk (show n - (i + 1) ≤ gk - 1 ∧ 0 < gk by have := hq.out; omega)
      have HLT := Aside0.mk hlt
      have e2 : (i : Int) + 1 ≤ 100000 := by omega
      have hw1 := W1.out; have hw2 := W2.out
      have hw1W := (i64_w _).trans hw1; have hw2W := (i64_w _).trans hw2
      clear hs hex hey hlt hi hq hp hq2
      go_wp2
      go_region
      all_goals go_wp2
      all_goals go_roundg (gk - 1)
      all_goals first
        | (have := HQ.out; omega)
        | exact ⟨i + 1, by go_num, ⟨HLT.out⟩, ⟨HQ.out.1⟩, ⟨by first | exact HP.out | exact Kd.R_drew HP.out⟩, ⟨KepB.setCell (KepB.setCell (KepB.drew HK.out) (p := ⟨g, p, none⟩) (.inl rfl) _) (p := ⟨g, q, none⟩) (.inl rfl) _⟩⟩
    · have c0 : decide ((i : Int) < (n : Int)) = false := decide_eq_false (by omega)
      have c00 : decide (i < n) = false := decide_eq_false hlt
      obtain rfl : i = n := by have := hi.out; omega
      go_wp2
      go_end0
      exact ⟨rfl, HR.out, HK.out⟩
end
end Go.Proofs.Ythlnpbdjblocfaa.P

namespace Go.Proofs.Ythlnpbdjblocfaa.P
open Go.Proofs.Ythlnpbdjblocfaa.Srt
set_option linter.unusedVariables false
set_option linter.unusedSimpArgs false
theorem swp_get (l : List El) (i j k : Nat) (hi : i < l.length) (hj : j < l.length) : (swp l i j)[k]? = if k = j then l[i]? else if k = i then l[j]? else l[k]? := by
  unfold swp
  rw [List.getElem?_set, List.getElem?_set, List.length_set]
  by_cases e1 : j = k
  · subst e1
    rw [if_pos rfl, if_pos hj, if_pos rfl, getElem!_pos l i hi, List.getElem?_eq_getElem hi]
  · rw [if_neg e1, if_neg (Ne.symm e1)]
    by_cases e2 : i = k
    · subst e2
      rw [if_pos rfl, if_pos hi, if_pos rfl, getElem!_pos l j hj, List.getElem?_eq_getElem hj]
    · rw [if_neg e2, if_neg (Ne.symm e2)]
theorem swapR_get (l : List El) (a b k : Nat) : ∀ n, a + n ≤ b → b + n ≤ l.length → (swapR l a b n)[k]? = if a ≤ k ∧ k < a + n then l[k + (b - a)]? else if b ≤ k ∧ k < b + n then l[k - (b - a)]? else l[k]?
  | 0, _, _ => by
    rw [if_neg (by omega), if_neg (by omega)]
    rfl
  | n + 1, h1, h2 => by
    rw [swapR, swp_get _ _ _ _ (by rw [swapR_len]; omega) (by rw [swapR_len]; omega)]
    rw [swapR_get l a b (a + n) n (by omega) (by omega), swapR_get l a b (b + n) n (by omega) (by omega), swapR_get l a b k n (by omega) (by omega)]
    rw [if_neg (show ¬ (a ≤ a + n ∧ a + n < a + n) by omega), if_neg (show ¬ (b ≤ a + n ∧ a + n < b + n) by omega), if_neg (show ¬ (a ≤ b + n ∧ b + n < a + n) by omega), if_neg (show ¬ (b ≤ b + n ∧ b + n < b + n) by omega)]
    by_cases e1 : k = b + n
    · rw [if_pos e1, if_neg (by omega), if_pos (by omega)]
      congr 1
      omega
    · rw [if_neg e1]
      by_cases e2 : k = a + n
      · rw [if_pos e2, if_pos (by omega)]
        congr 1
        omega
      · rw [if_neg e2]
        by_cases e3 : a ≤ k ∧ k < a + n
        · rw [if_pos e3, if_pos (by omega)]
        · rw [if_neg e3, if_neg (show ¬ (a ≤ k ∧ k < a + (n + 1)) by omega)]
          by_cases e4 : b ≤ k ∧ k < b + n
          · rw [if_pos e4, if_pos (by omega)]
          · rw [if_neg e4, if_neg (by omega)]
theorem rot_len (l : List El) (a m b : Nat) (h1 : a ≤ m) (h2 : m ≤ b) (h3 : b ≤ l.length) : (rot l a m b).length = l.length := by
  unfold rot
  simp only [List.length_append, List.length_take, List.length_drop]
  omega
theorem rot_get (l : List El) (a m b k : Nat) (h1 : a ≤ m) (h2 : m ≤ b) (h3 : b ≤ l.length) : (rot l a m b)[k]? = if k < a then l[k]? else if k < a + (b - m) then l[k + (m - a)]? else if k < b then l[k - (b - m)]? else l[k]? := by
  have t1 : (l.take a).length = a := by rw [List.length_take]; omega
  have t2 : ((l.take b).drop m).length = b - m := by rw [List.length_drop, List.length_take]; omega
  have t3 : ((l.take m).drop a).length = m - a := by rw [List.length_drop, List.length_take]; omega
  unfold rot
  by_cases e1 : k < a
  · rw [if_pos e1, List.getElem?_append_left (by omega), List.getElem?_take_of_lt e1]
  · rw [if_neg e1, List.getElem?_append_right (by omega), t1]
    by_cases e2 : k < a + (b - m)
    · rw [if_pos e2, List.getElem?_append_left (by omega), List.getElem?_drop, List.getElem?_take_of_lt (by omega)]
      congr 1
      omega
    · rw [if_neg e2, List.getElem?_append_right (by omega), t2]
      by_cases e3 : k < b
      · rw [if_pos e3, List.getElem?_append_left (by omega), List.getElem?_drop, List.getElem?_take_of_lt (by omega)]
        congr 1
        omega
      · rw [if_neg e3, List.getElem?_append_right (by omega), t3, List.getElem?_drop]
        congr 1
        omega
theorem rot_far (l : List El) (m i j : Nat) (hi : i ≤ m) (hj : m + j ≤ l.length) (h : j < i) : rot (swapR l (m - i) m j) (m - (i - j)) m (m + j) = rot l (m - i) m (m + j) := by
  refine List.ext_getElem? (fun k => ?_)
  rw [rot_get _ _ _ _ _ (by omega) (by omega) (by rw [swapR_len]; exact hj), rot_get _ _ _ _ _ (by omega) (by omega) hj]
  rw [swapR_get _ _ _ _ _ (by omega) (by omega), swapR_get _ _ _ _ _ (by omega) (by omega), swapR_get _ _ _ _ _ (by omega) (by omega)]
  (repeat' split) <;> first | rfl | omega | (congr 1; omega)
theorem rot_near (l : List El) (m i j : Nat) (hi : i ≤ m) (hj : m + j ≤ l.length) (h : i < j) : rot (swapR l (m - i) (m + j - i) i) (m - i) m (m + (j - i)) = rot l (m - i) m (m + j) := by
  refine List.ext_getElem? (fun k => ?_)
  rw [rot_get _ _ _ _ _ (by omega) (by omega) (by rw [swapR_len]; omega), rot_get _ _ _ _ _ (by omega) (by omega) hj]
  rw [swapR_get _ _ _ _ _ (by omega) (by omega), swapR_get _ _ _ _ _ (by omega) (by omega), swapR_get _ _ _ _ _ (by omega) (by omega)]
  (repeat' split) <;> first | rfl | omega | (congr 1; omega)
theorem rot_even (l : List El) (m i : Nat) (hi : i ≤ m) (hj : m + i ≤ l.length) : swapR l (m - i) m i = rot l (m - i) m (m + i) := by
  refine List.ext_getElem? (fun k => ?_)
  rw [rot_get _ _ _ _ _ (by omega) (by omega) hj, swapR_get _ _ _ _ _ (by omega) (by omega)]
  (repeat' split) <;> first | rfl | omega | (congr 1; omega)
end Go.Proofs.Ythlnpbdjblocfaa.P

namespace Go.Proofs.Ythlnpbdjblocfaa.P
open Go.RowKit Go.Proofs.Ythlnpbdjblocfaa.Srt Go.Proofs.YthlnpbdjblocfaaW.PrintWords Go.Proofs.YthlnpbdjblocfaaW.PrintLast Go.Proofs.YthlnpbdjblocfaaW.PrintMore Go.Proofs.Ythlnpbdjblocfaa.Pure
set_option linter.unusedVariables false
set_option linter.unusedSimpArgs false
set_option maxHeartbeats 8000000 in
set_option maxRecDepth 100000 in
theorem rotate_calls (g L c base : Nat) (ok : Nat → Prop) (W0 W : World) (l : List El) (fv : Value) (a m b : Nat) (h1 : a < m) (h2 : m < b) (h3 : b ≤ L) (hL : L ≤ 1000) (hlen : l.length = L) (hr : kdE.R 35 W base ok (.slice (some ⟨g, 0, none⟩) L c) l) (hk : KepB W0 W (fun k => k = g)) :
    Calls Try.prog 74 #[.slice (some ⟨g, 0, none⟩) L c, .int .i64 (a : Int), .int .i64 (m : Int), .int .i64 (b : Int), fv] W fun e W' => e = .returned (.tuple #[]) ∧ kdE.R 35 W' base ok (.slice (some ⟨g, 0, none⟩) L c) (rot l a m b) ∧ KepB W0 W' (fun k => k = g) := by
  have HR := Aside0.mk hr
  have HK := Aside0.mk hk
  have HB := Aside0.mk (show a < m ∧ m < b ∧ b ≤ L ∧ L ≤ 1000 from ⟨h1, h2, h3, hL⟩)
  obtain ⟨i0, hi0⟩ : ∃ z, m - a = z := ⟨_, rfl⟩
  obtain ⟨j0, hj0⟩ : ∃ z, b - m = z := ⟨_, rfl⟩
  have HI := Aside0.mk (show m - i0 = a ∧ m + j0 = b ∧ 0 < i0 ∧ 0 < j0 ∧ i0 ≤ m by omega)
  have w1_ := Aside0.mk (show wrap64 ((m : Int) - (a : Int)) = (i0 : Int) by rw [w64 (by omega) (by omega)]; omega)
  have w2_ := Aside0.mk (show wrap64 ((b : Int) - (m : Int)) = (j0 : Int) by rw [w64 (by omega) (by omega)]; omega)
  have HL := Aside0.mk hlen
  clear hr hk hi0 hj0 h1 h2 h3 hL hlen
  have hw1 := w1_.out; have hw2 := w2_.out
  have hw1W := (i64_w _).trans hw1; have hw2W := (i64_w _).trans hw2
  go_enter Try.func74, Try.ntmps74
  go_wp2
  clear hw1 hw2 hw1W hw2W
  go_loopg [10, 11] (i0 + j0 + 1) (fun kq v10 v11 w' => ∃ (i j : Nat) (x : List El), v10 = .int .i64 (i : Int) ∧ v11 = .int .i64 (j : Int) ∧ Aside0 (0 < i ∧ 0 < j ∧ i ≤ m ∧ m + j ≤ L) ∧ Aside0 (i + j ≤ kq) ∧ Aside0 (x.length = L ∧ rot x (m - i) m (m + j) = rot l a m b) ∧ Aside0 (kdE.R 35 w' base ok (.slice (some ⟨g, 0, none⟩) L c) x) ∧ Aside0 (KepB W0 w' (fun k => k = g)))
  case atStart => exact ⟨i0, j0, l, rfl, rfl, ⟨by have := HI.out; have := HB.out; omega⟩, ⟨by omega⟩, ⟨HL.out, by rw [HI.out.1, HI.out.2.1]⟩, HR, HK⟩
  case round =>
    clear HR HK
    obtain ⟨i, j, x, rfl, rfl, hij, hq, HX, HR, HK⟩ := hrel
    by_cases hne : i = j
    · subst hne
      have c0 : ((i : Int) != (i : Int)) = false := by simp
      obtain ⟨mi, hmi⟩ : ∃ z, m - i = z := ⟨_, rfl⟩
      have w3_ := Aside0.mk (show wrap64 ((m : Int) - (i : Int)) = (mi : Int) by have := hij.out; have := HB.out; rw [w64 (by omega) (by omega)]; omega)
      have HF := Aside0.mk (show swapR x mi m i = rot l a m b by rw [← HX.out.2, ← hmi]; exact rot_even x m i hij.out.2.2.1 (by rw [HX.out.1]; exact hij.out.2.2.2))
      have HS := Aside0.mk (show mi + i ≤ m ∧ m + i ≤ L ∧ L ≤ 1000 by have := hij.out; have := HB.out; omega)
      clear hmi hij hq
      have hw3 := w3_.out
      have hw3W := (i64_w _).trans hw3
      go_wp2_with (first | (go_at_call 75; refine (swapRange_calls g L c base ok W0 _ x fv mi m i HS.out.1 HS.out.2.1 HS.out.2.2 HR.out HK.out).mono ?_; rintro e w5 ⟨rfl, hr5, hk5⟩; rw [HF.out] at hr5; have HR5 := Aside0.mk hr5; have HK5 := Aside0.mk hk5; clear hr5 hk5))
      go_end0
      exact ⟨rfl, HR5.out, HK5.out⟩
    · have c0 : ((i : Int) != (j : Int)) = true := by
        rw [bne_iff_ne]
        omega
      by_cases hlt : j < i
      · have c1 : decide ((j : Int) < (i : Int)) = true := decide_eq_true (by omega)
        have c10 : decide (j < i) = true := decide_eq_true hlt
        obtain ⟨mi, hmi⟩ : ∃ z, m - i = z := ⟨_, rfl⟩
        obtain ⟨i2, hi2⟩ : ∃ z, i - j = z := ⟨_, rfl⟩
        have w3_ := Aside0.mk (show wrap64 ((m : Int) - (i : Int)) = (mi : Int) by have := hij.out; have := HB.out; rw [w64 (by omega) (by omega)]; omega)
        have w4_ := Aside0.mk (show wrap64 ((i : Int) - (j : Int)) = (i2 : Int) by have := hij.out; have := HB.out; rw [w64 (by omega) (by omega)]; omega)
        have HF := Aside0.mk (show (swapR x mi m j).length = L ∧ rot (swapR x mi m j) (m - i2) m (m + j) = rot l a m b by rw [← HX.out.2, ← hmi, ← hi2]; exact ⟨by rw [swapR_len]; exact HX.out.1, rot_far x m i j hij.out.2.2.1 (by rw [HX.out.1]; exact hij.out.2.2.2) hlt⟩)
        have HS := Aside0.mk (show mi + j ≤ m ∧ m + j ≤ L ∧ L ≤ 1000 by have := hij.out; have := HB.out; omega)
        have HN := Aside0.mk (show (0 < i2 ∧ 0 < j ∧ i2 ≤ m ∧ m + j ≤ L) ∧ i2 + j ≤ gk - 1 ∧ 0 < gk by have := hij.out; have := hq.out; omega)
        clear hmi hi2 hij hq hlt hne
        have hw3 := w3_.out; have hw4 := w4_.out
        have hw3W := (i64_w _).trans hw3; have hw4W := (i64_w _).trans hw4
        go_wp2_with (first | (go_at_call 75; refine (swapRange_calls g L c base ok W0 _ x fv mi m j HS.out.1 HS.out.2.1 HS.out.2.2 HR.out HK.out).mono ?_; rintro e w5 ⟨rfl, hr5, hk5⟩; have HR5 := Aside0.mk hr5; have HK5 := Aside0.mk hk5; clear hr5 hk5))
        clear hw3 hw4 hw3W hw4W
        go_roundg (gk - 1)
        case measure => have := HN.out; omega
        case rel => exact ⟨i2, j, _, by first | rfl | go_num, rfl, ⟨HN.out.1⟩, ⟨HN.out.2.1⟩, HF, HR5, HK5⟩
      · have c1 : decide ((j : Int) < (i : Int)) = false := decide_eq_false (by omega)
        have c10 : decide (j < i) = false := decide_eq_false hlt
        have hlt2 : i < j := by omega
        obtain ⟨mi, hmi⟩ : ∃ z, m - i = z := ⟨_, rfl⟩
        obtain ⟨mj, hmj⟩ : ∃ z, m + j = z := ⟨_, rfl⟩
        obtain ⟨q, hq2⟩ : ∃ z, mj - i = z := ⟨_, rfl⟩
        obtain ⟨j2, hj2⟩ : ∃ z, j - i = z := ⟨_, rfl⟩
        have w3_ := Aside0.mk (show wrap64 ((m : Int) - (i : Int)) = (mi : Int) by have := hij.out; have := HB.out; rw [w64 (by omega) (by omega)]; omega)
        have w4_ := Aside0.mk (show wrap64 ((m : Int) + (j : Int)) = (mj : Int) by have := hij.out; have := HB.out; rw [w64 (by omega) (by omega)]; omega)
        have w5_ := Aside0.mk (show wrap64 ((mj : Int) - (i : Int)) = (q : Int) by have := hij.out; have := HB.out; rw [w64 (by omega) (by omega)]; omega)
        have w6_ := Aside0.mk (show wrap64 ((j : Int) - (i : Int)) = (j2 : Int) by have := hij.out; have := HB.out; rw [w64 (by omega) (by omega)]; omega)
        have HF := Aside0.mk (show (swapR x mi q i).length = L ∧ rot (swapR x mi q i) (m - i) m (m + j2) = rot l a m b by rw [← HX.out.2, ← hmi, ← hj2, ← hq2, ← hmj]; exact ⟨by rw [swapR_len]; exact HX.out.1, rot_near x m i j hij.out.2.2.1 (by rw [HX.out.1]; exact hij.out.2.2.2) hlt2⟩)
        have HS := Aside0.mk (show mi + i ≤ q ∧ q + i ≤ L ∧ L ≤ 1000 by have := hij.out; have := HB.out; omega)
        have HN := Aside0.mk (show (0 < i ∧ 0 < j2 ∧ i ≤ m ∧ m + j2 ≤ L) ∧ i + j2 ≤ gk - 1 ∧ 0 < gk by have := hij.out; have := hq.out; omega)
        clear hmi hj2 hij hq hlt hne hlt2 hmj hq2
        have hw3 := w3_.out; have hw4 := w4_.out; have hw5 := w5_.out; have hw6 := w6_.out
        have hw3W := (i64_w _).trans hw3; have hw4W := (i64_w _).trans hw4; have hw5W := (i64_w _).trans hw5; have hw6W := (i64_w _).trans hw6
        go_wp2_with (first | (go_at_call 75; refine (swapRange_calls g L c base ok W0 _ x fv mi q i HS.out.1 HS.out.2.1 HS.out.2.2 HR.out HK.out).mono ?_; rintro e w5 ⟨rfl, hr5, hk5⟩; have HR5 := Aside0.mk hr5; have HK5 := Aside0.mk hk5; clear hr5 hk5))
        clear hw3 hw4 hw5 hw6 hw3W hw4W hw5W hw6W
        go_roundg (gk - 1)
        case measure => have := HN.out; omega
        case rel => exact ⟨i, j2, _, rfl, by first | rfl | go_num, ⟨HN.out.1⟩, ⟨HN.out.2.1⟩, HF, HR5, HK5⟩
end Go.Proofs.Ythlnpbdjblocfaa.P

namespace Go.Proofs.Ythlnpbdjblocfaa.P
open Go.RowKit Go.Proofs.Ythlnpbdjblocfaa.Srt Go.Proofs.YthlnpbdjblocfaaW.PrintWords Go.Proofs.YthlnpbdjblocfaaW.PrintLast Go.Proofs.YthlnpbdjblocfaaW.PrintMore Go.Proofs.Ythlnpbdjblocfaa.Pure
set_option linter.unusedVariables false
set_option linter.unusedSimpArgs false
theorem swap_two (y x : El) (R : List El) : ∀ P : List El, ((P ++ y :: x :: R).set (P.length + 1) y).set P.length x = P ++ x :: y :: R
  | [] => rfl
  | p :: P => by
    have := swap_two y x R P
    simp only [List.cons_append, List.length_cons, List.set_cons_succ]
    rw [this]
/-- What the program's comparison comes to, wherever only the row and what is new has been written. -/
def CmpOk (g : Nat) (lb : Array Value) (okE : El → Prop) (lt : El → El → Bool) (W0 : World) : Prop :=
  ∀ W', KepB W0 W' (fun k => k = g) → ∀ x y, okE x → okE y → Calls Try.prog 52 (#[encE x, encE y] ++ lb) W' fun e W'' => ∃ v : Int, e = .returned (.int .i64 v) ∧ decide (v < 0) = lt x y ∧ Below W'.heap.size W' W''
theorem at_mid (P : List El) (x : El) (R : List El) : (P ++ x :: R)[P.length]! = x := by
  rw [getElem!_pos _ _ (by simp), List.getElem_append_right (by omega)]
  simp
theorem two_cells {W : World} {base g L c : Nat} {ok : Nat → Prop} {Z T : List El} {y x : El} (h : kdE.R 35 W base ok (.slice (some ⟨g, 0, none⟩) L c) (Z ++ y :: x :: T)) :
    W.cell? ⟨g, Z.length, none⟩ = some (encE y) ∧ W.frozen? ⟨g, Z.length, none⟩ = false ∧ W.cell? ⟨g, Z.length + 1, none⟩ = some (encE x) ∧ W.frozen? ⟨g, Z.length + 1, none⟩ = false := by
  have hl : L = (Z ++ y :: x :: T).length := (Kd.R_reads' h).1
  simp only [List.length_append, List.length_cons] at hl
  have h1 := cell_any h Z.length (by omega)
  have h2 := cell_any h (Z.length + 1) (by omega)
  rw [at_mid] at h1
  have e : (Z ++ y :: x :: T)[Z.length + 1]! = x := by
    have := at_mid (Z ++ [y]) x T
    rw [List.length_append, List.length_singleton, List.append_assoc] at this
    exact this
  rw [e] at h2
  exact ⟨h1.1, h1.2, h2.1, h2.2⟩
theorem insR_perm (lt : El → El → Bool) (x : El) : ∀ l : List El, (insR lt x l).Perm (x :: l)
  | [] => List.Perm.refl _
  | y :: r => by
    rw [insR]
    split
    · exact ((insR_perm lt x r).cons y).trans (List.Perm.swap x y r)
    · exact List.Perm.refl _
theorem insOne_perm (lt : El → El → Bool) (A : List El) (x : El) : (insOne lt A x).Perm (x :: A) := by
  unfold insOne
  exact (List.reverse_perm _).trans ((insR_perm lt x _).trans ((List.reverse_perm A).cons x))
set_option maxHeartbeats 8000000 in
set_option maxRecDepth 100000 in
theorem insertion_calls (g L c base : Nat) (ok : Nat → Prop) (Bc : Nat) (okE : El → Prop) (lt : El → El → Bool) (W0 W : World) (P B Q : List El) (hL : L ≤ 1000) (hlen : P.length + B.length + Q.length = L) (hok : ∀ x ∈ B, okE x) (hC : CmpOk g #[.pointer (some ⟨Bc, 0, none⟩)] okE lt W0)
    (hr : kdE.R 35 W base ok (.slice (some ⟨g, 0, none⟩) L c) (P ++ (B ++ Q))) (hk : KepB W0 W (fun k => k = g)) :
    Calls Try.prog 71 #[.slice (some ⟨g, 0, none⟩) L c, .int .i64 (P.length : Int), .int .i64 ((P.length + B.length : Nat) : Int), .func (.func 52) #[] #[.pointer (some ⟨Bc, 0, none⟩)]] W fun e W' => e = .returned (.tuple #[]) ∧ kdE.R 35 W' base ok (.slice (some ⟨g, 0, none⟩) L c) (P ++ (insAll lt B ++ Q)) ∧ KepB W0 W' (fun k => k = g) := by
  have HR := Aside0.mk hr
  have HK := Aside0.mk hk
  have HC := Aside0.mk hC
  have HOK := Aside0.mk hok
  obtain ⟨a, ha⟩ : ∃ a, P.length = a := ⟨_, rfl⟩
  obtain ⟨b, hb⟩ : ∃ b, a + B.length = b := ⟨_, rfl⟩
  rw [ha, hb]
  rw [ha] at hlen
  have HA := Aside0.mk ha
  have HBB := Aside0.mk (show a + B.length = b ∧ b + Q.length = L ∧ L ≤ 1000 by omega)
  have w1_ := Aside0.mk (show wrap64 ((a : Int) + 1) = ((a + 1 : Nat) : Int) by rw [w64 (by omega) (by omega)]; rfl)
  clear hr hk hC hok ha hb hL hlen
  have hw1 := w1_.out
  have hw1W := (i64_w _).trans hw1
  go_enter Try.func71, Try.ntmps71
  go_wp2
  clear hw1 hw1W
  go_loopg [8] (b + 2) (fun kq v8 w' => ∃ (i : Nat) (A : List El), v8 = .int .i64 (i : Int) ∧ Aside0 (a < i ∧ i ≤ b + 1) ∧ Aside0 (b + 2 - i ≤ kq) ∧ Aside0 (A.length = (B.take (i - a)).length ∧ (∀ z ∈ A, okE z) ∧ insAll lt B = (B.drop (i - a)).foldl (insOne lt) A) ∧ Aside0 (kdE.R 35 w' base ok (.slice (some ⟨g, 0, none⟩) L c) (P ++ (A ++ (B.drop (i - a) ++ Q)))) ∧ Aside0 (KepB W0 w' (fun k => k = g)))
  case atStart =>
    refine ⟨a + 1, B.take 1, by first | rfl | go_num, ⟨by have := HBB.out; omega⟩, ⟨by omega⟩, ⟨?_⟩, ⟨?_⟩, HK⟩
    · rw [show a + 1 - a = 1 by omega]
      refine ⟨rfl, fun z hz => HOK.out z (List.mem_of_mem_take hz), ?_⟩
      cases B with
      | nil => rfl
      | cons x B => rfl
    · rw [show a + 1 - a = 1 by omega, ← List.append_assoc (B.take 1), List.take_append_drop]
      exact HR.out
  case round =>
    clear HR HK
    obtain ⟨i, A, rfl, hi, hq, HX, HR, HK⟩ := hrel
    by_cases hlt : i < b
    · have hAl : A.length = i - a := by
        have h1 := HX.out.1
        have := HBB.out
        rw [List.length_take] at h1
        have := hi.out
        omega
      obtain ⟨x, rest, hxr⟩ : ∃ x rest, B.drop (i - a) = x :: rest := by
        cases h : B.drop (i - a) with
        | nil =>
          have := congrArg List.length h
          rw [List.length_drop, List.length_nil] at this
          have := HBB.out
          have := hi.out
          omega
        | cons x rest => exact ⟨x, rest, rfl⟩
      have hdr : B.drop (i + 1 - a) = rest := by
        have h1 : B.drop (i + 1 - a) = (B.drop (i - a)).drop 1 := by
          rw [List.drop_drop]
          congr 1
          have := hi.out
          omega
        rw [h1, hxr]
        rfl
      have hxok : okE x := HOK.out x (List.mem_of_mem_drop (by rw [hxr]; simp))
      have hfold := HX.out.2.2
      rw [hxr, List.foldl_cons] at hfold
      rw [hxr] at HR
      have HAO := Aside0.mk HX.out.2.1
      have HXO := Aside0.mk hxok
      have HFO := Aside0.mk hfold
      have HDR := Aside0.mk hdr
      have HAL := Aside0.mk hAl
      have HQQ := Aside0.mk (show b + 2 - (i + 1) ≤ gk - 1 ∧ 0 < gk by have := hq.out; omega)
      have HLT := Aside0.mk (show a < i ∧ i < b ∧ i ≤ 1000 by have := hi.out; have := HBB.out; omega)
      have c0 : decide ((i : Int) < (b : Int)) = true := decide_eq_true (by omega)
      have c00 : decide (i < b) = true := decide_eq_true hlt
      have e9 : (i : Int) + 1 ≤ 100000 := by have := HLT.out; omega
      obtain ⟨⟨xg, xc, xp⟩, hxe⟩ : ∃ z, x = z := ⟨_, rfl⟩
      have HOUT : Aside0 ((insOne lt A x).length = (B.take (i + 1 - a)).length ∧ (∀ z ∈ insOne lt A x, okE z) ∧ insAll lt B = (B.drop (i + 1 - a)).foldl (insOne lt) (insOne lt A x)) := ⟨by
        refine ⟨?_, ?_, by rw [hdr]; exact hfold⟩
        · rw [(insOne_perm lt A x).length_eq, List.length_cons, List.length_take, hAl]
          have := HBB.out
          have := HLT.out
          omega
        · intro z hz
          rcases List.mem_cons.1 ((insOne_perm lt A x).mem_iff.1 hz) with h | h
          · rw [h]; exact hxok
          · exact HAO.out z h⟩
      clear hlt hi hq HX hxr hdr hxok hfold hAl
      go_wp2
      go_loopg [9] (i + 1) (fun kq v9 w' => ∃ (j : Nat) (A1 A2 : List El), v9 = .int .i64 (j : Int) ∧ Aside0 (j = a + A1.length ∧ A1.length + A2.length = A.length) ∧ Aside0 (A1.length ≤ kq) ∧ Aside0 ((∀ z ∈ A1, okE z) ∧ insOne lt A x = insOne lt A1 x ++ A2) ∧ Aside0 (kdE.R 35 w' base ok (.slice (some ⟨g, 0, none⟩) L c) (P ++ (A1 ++ (x :: (A2 ++ (rest ++ Q)))))) ∧ Aside0 (KepB W0 w' (fun k => k = g)))
      case atStart => exact ⟨i, A, [], rfl, ⟨by have := HAL.out; have := HLT.out; omega, by simp⟩, ⟨by have := HAL.out; omega⟩, ⟨HAO.out, by simp⟩, HR, HK⟩
      case round =>
        clear HR HK
        obtain ⟨j, A1, A2, rfl, hj, hq, HI, HR, HK⟩ := hrel
        by_cases hja : a < j
        · obtain ⟨B1, y, rfl⟩ : ∃ B1 y, A1 = B1 ++ [y] := ⟨A1.dropLast, A1.getLast (by intro e; subst e; have := hj.out.1; simp at this; omega), (List.dropLast_concat_getLast _).symm⟩
          obtain ⟨Z, hZ⟩ : ∃ Z, P ++ B1 = Z := ⟨_, rfl⟩
          have hrow : P ++ ((B1 ++ [y]) ++ (x :: (A2 ++ (rest ++ Q)))) = Z ++ y :: x :: (A2 ++ (rest ++ Q)) := by rw [← hZ]; simp
          rw [hrow] at HR
          obtain ⟨jp, hjp⟩ : ∃ jp, Z.length = jp := ⟨_, rfl⟩
          have hjj : j = jp + 1 := by
            have h1 := hj.out.1
            have h2 := HA.out
            rw [← hjp, ← hZ, List.length_append, h2, h1, List.length_append, List.length_singleton]
            omega
          subst hjj
          have hyok : okE y := HI.out.1 y (by simp)
          have HY := Aside0.mk hyok
          obtain ⟨⟨yg, yc, yp⟩, hye⟩ : ∃ z, y = z := ⟨_, rfl⟩
          have tc := two_cells HR.out
          rw [hjp, hxe, hye] at tc
          obtain ⟨ty, tyf, tx, txf⟩ := tc
          have hB1 := Aside0.mk (show ∀ z ∈ B1, okE z from fun z hz => HI.out.1 z (by simp [hz]))
          have hlb := HBB.out
          have hlens : (Z ++ y :: x :: (A2 ++ (rest ++ Q))).length = L := (Kd.R_reads' HR.out).1.symm
          simp only [List.length_append, List.length_cons] at hlens
          rw [hjp] at hlens
          have b1 : jp + 1 < L := by omega
          have b2 : jp < L := by omega
          have b3 : (jp : Int) + 1 < (L : Int) := by omega
          have b4 : (jp : Int) < (L : Int) := by omega
          have b5 : (0 : Int) ≤ (jp : Int) := by omega
          have b6 : (0 : Int) ≤ (jp : Int) + 1 := by omega
          have c1 : decide ((a : Int) < (jp : Int) + 1) = true := decide_eq_true (by omega)
          have c10 : decide (a < jp + 1) = true := decide_eq_true hja
          have w1_ := Aside0.mk (show wrap64 (jp : Int) = (jp : Int) by rw [w64 (by omega) (by omega)])
          have hw1 := w1_.out
          have hw1W := (i64_w _).trans hw1
          have HBY := Aside0.mk hlens
          replace tx : wr.cell? ⟨g, jp + 1, none⟩ = some (.slice (some ⟨xg, 0, none⟩) 2 xc) := tx
          replace ty : wr.cell? ⟨g, jp, none⟩ = some (.slice (some ⟨yg, 0, none⟩) 2 yc) := ty
          have hex : encE x = .slice (some ⟨xg, 0, none⟩) 2 xc := by rw [hxe]; rfl
          have hey : encE y = .slice (some ⟨yg, 0, none⟩) 2 yc := by rw [hye]; rfl
          have HCC : Aside0 (∀ W', KepB W0 W' (fun k => k = g) → Calls Try.prog 52 #[.slice (some ⟨xg, 0, none⟩) 2 xc, .slice (some ⟨yg, 0, none⟩) 2 yc, .pointer (some ⟨Bc, 0, none⟩)] W' fun e W'' => ∃ v : Int, e = .returned (.int .i64 v) ∧ decide (v < 0) = lt x y ∧ Below W'.heap.size W' W'') := ⟨fun W' h => by
            have h1 := HC.out W' h x y HXO.out hyok
            rw [hex, hey] at h1
            exact h1⟩
          clear hex hey
          have HTC : Aside0 (∀ w', kdE.R 35 w' base ok (.slice (some ⟨g, 0, none⟩) L c) (Z ++ y :: x :: (A2 ++ (rest ++ Q))) → w'.cell? ⟨g, jp + 1, none⟩ = some (.slice (some ⟨xg, 0, none⟩) 2 xc) ∧ w'.cell? ⟨g, jp, none⟩ = some (.slice (some ⟨yg, 0, none⟩) 2 yc) ∧ w'.frozen? ⟨g, jp + 1, none⟩ = false ∧ w'.frozen? ⟨g, jp, none⟩ = false) := ⟨fun w' h => by
            have tc := two_cells h
            rw [hjp, hxe, hye] at tc
            exact ⟨tc.2.2.1, tc.1, tc.2.2.2, tc.2.1⟩⟩
          have HHJ := Aside0.mk (show jp = a + B1.length ∧ B1.length + A2.length + 1 = A.length ∧ B1.length + 1 ≤ gk by
            have h1 := hj.out
            have h2 := hq.out
            simp only [List.length_append, List.length_singleton] at h1 h2
            omega)
          have HII := Aside0.mk (show insOne lt A x = insOne lt (B1 ++ [y]) x ++ A2 from HI.out.2)
          have HZ := Aside0.mk hZ
          have HJP := Aside0.mk hjp
          have HXE := Aside0.mk hxe
          have HYE := Aside0.mk hye
          clear hj hq HI hyok hlens hrow hlb hZ hjp hxe hye hja
          go_wp2
          go_region_held3 (fun w' => w'.cell? ⟨g, jp + 1, none⟩ = some (.slice (some ⟨xg, 0, none⟩) 2 xc) ∧ w'.cell? ⟨g, jp, none⟩ = some (.slice (some ⟨yg, 0, none⟩) 2 yc)) (first | exact ⟨tx, ty⟩ | exact ⟨(HTC.out _ HR.out).1, (HTC.out _ HR.out).2.1⟩) ((go_at_call 52; refine (HCC.out _ ?hk_).mono ?_; (case hk_ => first | exact HK.out | exact KepB.drew HK.out); rintro e w5 ⟨v, rfl, hv, hb⟩; have HV := Aside0.mk hv; have hbw : Below wr.heap.size wr w5 := below_step (by repeat (first | (with_reducible first | exact (Below.refl wr.heap.size wr) | apply below_alloc | apply pw_below_drewN | apply below_drew1) | exact (Below.refl wr.heap.size wr)) : Below wr.heap.size wr _) hb; have n0_ := Aside0.mk (KepB.below HK.out hbw); have n1_ := Aside0.mk (Kd.R_below HR.out hbw); clear HK HR; have HK := n0_; have HR := n1_; clear n0_ n1_ hv hb hbw))
          cases hlx : lt x y with
          | true =>
            have cv : decide (v < 0) = true := HV.out.trans hlx
            have cv0 : v < 0 := of_decide_eq_true cv
            have hrs : ((Z ++ y :: x :: (A2 ++ (rest ++ Q))).set (jp + 1) y).set jp x = P ++ (B1 ++ x :: ((y :: A2) ++ (rest ++ Q))) := by
              rw [← HJP.out, swap_two, ← HZ.out]
              simp
            have HP := Aside0.mk (put_any (put_any HR.out (jp + 1) y) jp x)
            rw [hrs, show encE x = .slice (some ⟨xg, 0, none⟩) 2 xc by rw [HXE.out]; rfl, show encE y = .slice (some ⟨yg, 0, none⟩) 2 yc by rw [HYE.out]; rfl] at HP
            obtain ⟨tx5, ty5, txf5, tyf5⟩ := HTC.out _ HR.out
            have HNX := Aside0.mk (show insOne lt A x = insOne lt B1 x ++ (y :: A2) by rw [HII.out, insOne_go lt B1 y x hlx]; simp)
            have hpq : ¬ jp = jp + 1 := by omega
            have hqp : ¬ jp + 1 = jp := by omega
            clear hrs hlx
            rw [cv]
            clear cv cv0
            go_wp2
            go_region
            all_goals go_wp2
            all_goals go_roundg B1.length
            all_goals first
              | (have := HHJ.out; omega)
              | exact ⟨jp, B1, y :: A2, by go_num, ⟨HHJ.out.1, by have := HHJ.out; simp only [List.length_cons]; omega⟩, ⟨Nat.le_refl _⟩, ⟨hB1.out, HNX.out⟩, ⟨by first | exact HP.out | exact Kd.R_drew HP.out⟩, ⟨KepB.setCell (KepB.setCell (KepB.drew HK.out) (p := ⟨g, jp + 1, none⟩) (.inl rfl) _) (p := ⟨g, jp, none⟩) (.inl rfl) _⟩⟩
          | false =>
            have cv : decide (v < 0) = false := HV.out.trans hlx
            have cv0 : ¬ v < 0 := of_decide_eq_false cv
            have HNX := Aside0.mk (show insOne lt A x = B1 ++ [y] ++ [x] ++ A2 by rw [HII.out, insOne_stop lt B1 y x (by rw [hlx]; decide)])
            clear hlx
            rw [cv]
            clear cv cv0
            go_wp2
            have HRF : Aside0 (kdE.R 35 w5 base ok (.slice (some ⟨g, 0, none⟩) L c) (P ++ (insOne lt A x ++ (B.drop (i + 1 - a) ++ Q)))) := ⟨by
              rw [HDR.out, HNX.out, show P ++ (B1 ++ [y] ++ [x] ++ A2 ++ (rest ++ Q)) = Z ++ y :: x :: (A2 ++ (rest ++ Q)) by rw [← HZ.out]; simp]
              exact HR.out⟩
            go_roundg (b + 2 - (i + 1))
            all_goals first
              | (have := HQQ.out; omega)
              | exact ⟨i + 1, insOne lt A x, by go_num, ⟨by have := HLT.out; omega⟩, ⟨Nat.le_refl _⟩, HOUT, HRF, HK⟩
        · have hja0 : j = a ∧ A1 = [] := by
            have h1 := hj.out.1
            have : A1.length = 0 := by omega
            exact ⟨by omega, List.eq_nil_of_length_eq_zero this⟩
          obtain ⟨rfl, rfl⟩ := hja0
          have HNX := Aside0.mk (show insOne lt A x = [x] ++ A2 by rw [HI.out.2, insOne_nil])
          have c1 : decide ((j : Int) < (j : Int)) = false := decide_eq_false (by omega)
          have c10 : decide (j < j) = false := decide_eq_false (by omega)
          have HRF : Aside0 (kdE.R 35 wr base ok (.slice (some ⟨g, 0, none⟩) L c) (P ++ (insOne lt A x ++ (B.drop (i + 1 - j) ++ Q)))) := ⟨by
            rw [HDR.out, HNX.out]
            exact HR.out⟩
          clear hj hq HI HR
          go_wp2
          go_region
          all_goals go_wp2
          all_goals go_roundg (b + 2 - (i + 1))
          all_goals first
            | (have := HQQ.out; omega)
            | exact ⟨i + 1, insOne lt A x, by go_num, ⟨by have := HLT.out; omega⟩, ⟨Nat.le_refl _⟩, HOUT, ⟨by first | exact HRF.out | exact Kd.R_drew HRF.out⟩, ⟨by first | exact HK.out | exact KepB.drew HK.out⟩⟩
    · have c0 : decide ((i : Int) < (b : Int)) = false := decide_eq_false (by omega)
      have c00 : decide (i < b) = false := decide_eq_false hlt
      have hdn : B.drop (i - a) = [] := List.drop_of_length_le (by have := HBB.out; omega)
      rw [hdn] at HR HX
      have he : insAll lt B = A := HX.out.2.2
      rw [← he] at HR
      go_wp2
      go_end0
      exact ⟨rfl, HR.out, HK.out⟩
end Go.Proofs.Ythlnpbdjblocfaa.P

namespace Go.Proofs.Ythlnpbdjblocfaa.P
open Go.RowKit Go.Proofs.Ythlnpbdjblocfaa.Srt Go.Proofs.YthlnpbdjblocfaaW.PrintWords Go.Proofs.YthlnpbdjblocfaaW.PrintLast Go.Proofs.YthlnpbdjblocfaaW.PrintMore Go.Proofs.Ythlnpbdjblocfaa.Pure
set_option linter.unusedVariables false
set_option linter.unusedSimpArgs false
theorem mem_at (l : List El) (i : Nat) (h : i < l.length) : l[i]! ∈ l := by
  rw [getElem!_pos l i h]
  exact List.getElem_mem h
theorem half (i j : Nat) (h : i + j ≤ 100000) : wrap64 (IntKind.u64.wrap (wrap64 ((i : Int) + (j : Int))) / 2) = (((i + j) / 2 : Nat) : Int) := by
  have h1 : wrap64 ((i : Int) + (j : Int)) = (i : Int) + (j : Int) := w64 (by omega) (by omega)
  rw [h1, show IntKind.u64.wrap ((i : Int) + (j : Int)) = (i : Int) + (j : Int) from Int.emod_eq_of_lt (by omega) (show (i : Int) + (j : Int) < 18446744073709551616 by omega), w64 (by omega) (by omega)]
  omega
theorem swap_up (x y : El) (R : List El) : ∀ P : List El, ((P ++ x :: y :: R).set P.length y).set (P.length + 1) x = P ++ y :: x :: R
  | [] => rfl
  | p :: P => by
    have := swap_up x y R P
    simp only [List.cons_append, List.length_cons, List.set_cons_succ]
    rw [this]
set_option maxHeartbeats 8000000 in
set_option maxRecDepth 100000 in
theorem symFirst_calls (g L c base : Nat) (ok : Nat → Prop) (Bc : Nat) (okE : El → Prop) (lt : El → El → Bool) (W0 W : World) (l : List El) (a b : Nat) (hL : L ≤ 1000) (hb : a + 1 < b) (hbL : b ≤ L) (hlen : l.length = L) (hok : ∀ x ∈ l, okE x) (hC : CmpOk g #[.pointer (some ⟨Bc, 0, none⟩)] okE lt W0)
    (hr : kdE.R 35 W base ok (.slice (some ⟨g, 0, none⟩) L c) l) (hk : KepB W0 W (fun k => k = g)) :
    Calls Try.prog 72 #[.slice (some ⟨g, 0, none⟩) L c, .int .i64 (a : Int), .int .i64 ((a + 1 : Nat) : Int), .int .i64 (b : Int), .func (.func 52) #[] #[.pointer (some ⟨Bc, 0, none⟩)]] W fun e W' => e = .returned (.tuple #[]) ∧ kdE.R 35 W' base ok (.slice (some ⟨g, 0, none⟩) L c) (rot l a (a + 1) (bsearch (fun h => lt l[h]! l[a]!) (b - (a + 1)) (a + 1) b)) ∧ KepB W0 W' (fun k => k = g) := by
  have HR := Aside0.mk hr
  have HK := Aside0.mk hk
  have HC := Aside0.mk hC
  have HOK := Aside0.mk hok
  have HL := Aside0.mk hlen
  have HB := Aside0.mk (show a + 1 < b ∧ b ≤ L ∧ L ≤ 1000 by omega)
  obtain ⟨T, hT⟩ : ∃ T, bsearch (fun h => lt l[h]! l[a]!) (b - (a + 1)) (a + 1) b = T := ⟨_, rfl⟩
  rw [hT]
  have HT := Aside0.mk hT
  have e9 : (a : Int) + 1 ≤ 100000 := by omega
  have w1_ := Aside0.mk (show wrap64 ((a : Int) + 1 - (a : Int)) = 1 by rw [w64 (by omega) (by omega)]; omega)
  clear hr hk hC hok hlen hb hbL hL hT
  have hw1 := w1_.out
  have hw1W := (i64_w _).trans hw1
  go_enter Try.func72, Try.ntmps72
  go_wp2
  clear hw1 hw1W
  go_loopg [10, 11] (b + 1) (fun kq v10 v11 w' => ∃ (i j n : Nat), v10 = .int .i64 (i : Int) ∧ v11 = .int .i64 (j : Int) ∧ Aside0 (a < i ∧ i ≤ j ∧ j ≤ b ∧ j ≤ i + n) ∧ Aside0 (j - i ≤ kq) ∧ Aside0 (bsearch (fun h => lt l[h]! l[a]!) n i j = T) ∧ Aside0 (kdE.R 35 w' base ok (.slice (some ⟨g, 0, none⟩) L c) l) ∧ Aside0 (KepB W0 w' (fun k => k = g)))
  case atStart => exact ⟨a + 1, b, b - (a + 1), by go_num, rfl, ⟨by have := HB.out; omega⟩, ⟨by omega⟩, HT, HR, HK⟩
  case round =>
    clear HR HK
    obtain ⟨i, j, n, rfl, rfl, hij, hq, HI, HR, HK⟩ := hrel
    by_cases hlt : i < j
    · have c0 : decide ((i : Int) < (j : Int)) = true := decide_eq_true (by omega)
      have c00 : decide (i < j) = true := decide_eq_true hlt
      obtain ⟨h, hh⟩ : ∃ h, (i + j) / 2 = h := ⟨_, rfl⟩
      have HH := Aside0.mk (show i ≤ h ∧ h < j by omega)
      obtain ⟨n', rfl⟩ : ∃ n', n = n' + 1 := ⟨n - 1, by have := hij.out; omega⟩
      have HSQ : Aside0 (T = if lt l[h]! l[a]! = true then bsearch (fun h => lt l[h]! l[a]!) n' (h + 1) j else bsearch (fun h => lt l[h]! l[a]!) n' i h) := ⟨by
        rw [← HI.out, bsearch, if_pos hlt, hh]⟩
      have HQ := Aside0.mk (show j - (h + 1) ≤ gk - 1 ∧ h - i ≤ gk - 1 ∧ 0 < gk by have := hq.out; omega)
      have hll := HL.out
      have hbb := HB.out
      obtain ⟨hx, hfx⟩ := cell_any HR.out h (by have := hij.out; omega)
      obtain ⟨hy, hfy⟩ := cell_any HR.out a (by have := hij.out; omega)
      have hxo : okE l[h]! := HOK.out _ (mem_at l h (by have := hij.out; omega))
      have hyo : okE l[a]! := HOK.out _ (mem_at l a (by have := hij.out; omega))
      obtain ⟨⟨xg, xc, xp⟩, hxe⟩ : ∃ z, l[h]! = z := ⟨_, rfl⟩
      obtain ⟨⟨yg, yc, yp⟩, hye⟩ : ∃ z, l[a]! = z := ⟨_, rfl⟩
      have HCC : Aside0 (∀ W', KepB W0 W' (fun k => k = g) → Calls Try.prog 52 #[.slice (some ⟨xg, 0, none⟩) 2 xc, .slice (some ⟨yg, 0, none⟩) 2 yc, .pointer (some ⟨Bc, 0, none⟩)] W' fun e W'' => ∃ v : Int, e = .returned (.int .i64 v) ∧ decide (v < 0) = lt l[h]! l[a]! ∧ Below W'.heap.size W' W'') := ⟨fun W' hk => by
        have h1 := HC.out W' hk _ _ hxo hyo
        rw [show encE l[h]! = .slice (some ⟨xg, 0, none⟩) 2 xc by rw [hxe]; rfl, show encE l[a]! = .slice (some ⟨yg, 0, none⟩) 2 yc by rw [hye]; rfl] at h1
        exact h1⟩
      have HTC : Aside0 (∀ w', kdE.R 35 w' base ok (.slice (some ⟨g, 0, none⟩) L c) l → w'.cell? ⟨g, h, none⟩ = some (.slice (some ⟨xg, 0, none⟩) 2 xc) ∧ w'.cell? ⟨g, a, none⟩ = some (.slice (some ⟨yg, 0, none⟩) 2 yc)) := ⟨fun w' hr => by
        have h1 := (cell_any hr h (by have := hij.out; omega)).1
        have h2 := (cell_any hr a (by have := hij.out; omega)).1
        rw [hxe] at h1
        rw [hye] at h2
        exact ⟨h1, h2⟩⟩
      obtain ⟨tx, ty⟩ := HTC.out _ HR.out
      have p0 : (0 : Int) ≤ (h : Int) := by omega
      have p1 : (h : Int) < (L : Int) := by have := HH.out; have := hij.out; omega
      have p2 : h < L := by omega
      have p3 : (0 : Int) ≤ (a : Int) := by omega
      have p4 : (a : Int) < (L : Int) := by omega
      have p5 : a < L := by omega
      have e8 : (h : Int) + 1 ≤ 100000 := by omega
      have hHf := half i j (by have := hij.out; omega)
      rw [hh] at hHf
      have HHF := Aside0.mk hHf
      have HIJ := Aside0.mk (show a < i ∧ i ≤ j ∧ j ≤ b ∧ j ≤ i + (n' + 1) from hij.out)
      clear hij hq HI hll hbb hx hfx hy hfy hxo hyo hxe hye hHf hh hlt
      go_wp2
      rw [HHF.out]
      go_region_held3 (fun w' => w'.cell? ⟨g, h, none⟩ = some (.slice (some ⟨xg, 0, none⟩) 2 xc) ∧ w'.cell? ⟨g, a, none⟩ = some (.slice (some ⟨yg, 0, none⟩) 2 yc)) (first | exact ⟨tx, ty⟩ | exact HTC.out _ HR.out) ((go_at_call 52; refine (HCC.out _ ?hk_).mono ?_; (case hk_ => first | exact HK.out | exact KepB.drew HK.out); rintro e w5 ⟨v, rfl, hv, hb⟩; have HV := Aside0.mk hv; have hbw : Below wr.heap.size wr w5 := below_step (by repeat (first | (with_reducible first | exact (Below.refl wr.heap.size wr) | apply below_alloc | apply pw_below_drewN | apply below_drew1) | exact (Below.refl wr.heap.size wr)) : Below wr.heap.size wr _) hb; have n0_ := Aside0.mk (KepB.below HK.out hbw); have n1_ := Aside0.mk (Kd.R_below HR.out hbw); clear HK HR; have HK := n0_; have HR := n1_; clear n0_ n1_ hv hb hbw))
      cases hlx : lt l[h]! l[a]! with
      | true =>
        have cv : decide (v < 0) = true := HV.out.trans hlx
        have HNX := Aside0.mk (show bsearch (fun h => lt l[h]! l[a]!) n' (h + 1) j = T by rw [HSQ.out, if_pos hlx])
        clear hlx
        rw [cv]
        clear cv
        go_wp2
        go_roundg (gk - 1)
        all_goals first
          | (have := HQ.out; omega)
          | exact ⟨h + 1, j, n', by go_num, rfl, ⟨by have := HIJ.out; have := HH.out; omega⟩, ⟨HQ.out.1⟩, HNX, HR, HK⟩
      | false =>
        have cv : decide (v < 0) = false := HV.out.trans hlx
        have HNX := Aside0.mk (show bsearch (fun h => lt l[h]! l[a]!) n' i h = T by rw [HSQ.out, if_neg (by rw [hlx]; decide)])
        clear hlx
        rw [cv]
        clear cv
        go_wp2
        go_roundg (gk - 1)
        all_goals first
          | (have := HQ.out; omega)
          | exact ⟨i, h, n', rfl, rfl, ⟨by have := HIJ.out; have := HH.out; omega⟩, ⟨HQ.out.2.1⟩, HNX, HR, HK⟩
    · obtain rfl : i = j := by have := hij.out; omega
      have hTi : i = T := by
        have h1 := bsearch_spec (fun h => lt l[h]! l[a]!) n i i (Nat.le_refl _) (by omega)
        rw [HI.out] at h1
        omega
      subst hTi
      have c0 : decide ((i : Int) < (i : Int)) = false := decide_eq_false (by omega)
      have c00 : decide (i < i) = false := decide_eq_false (by omega)
      have HIJ := Aside0.mk (show a < i ∧ i ≤ b from ⟨hij.out.1, hij.out.2.2.1⟩)
      obtain ⟨P, x, B, Q, hl, hP, hB⟩ : ∃ (P : List El) (x : El) (B Q : List El), l = P ++ ([x] ++ (B ++ Q)) ∧ P.length = a ∧ a + 1 + B.length = i := by
        have h1 := HL.out
        have h2 := HB.out
        have h3 := HIJ.out
        refine ⟨l.take a, l[a]!, (l.take i).drop (a + 1), l.drop i, ?_, by rw [List.length_take]; omega, by rw [List.length_drop, List.length_take]; omega⟩
        have e1 : (l.take i).drop (a + 1) ++ l.drop i = l.drop (a + 1) := by
          rw [← List.drop_append_of_le_length (by rw [List.length_take]; omega), List.take_append_drop]
        rw [e1, List.singleton_append, getElem!_pos l a (by omega), ← List.drop_eq_getElem_cons (by omega), List.take_append_drop]
      have hrt : rot l a (a + 1) i = P ++ (B ++ ([x] ++ Q)) := by
        have := rot_parts P [x] B Q
        rw [← hl, hP, List.length_singleton, hB] at this
        exact this
      have HRT := Aside0.mk hrt
      rw [hl] at HR
      have HP := Aside0.mk hP
      have HBL := Aside0.mk hB
      clear hl hrt hP hB hij hq HI HT HOK HL
      obtain ⟨im, him⟩ : ∃ im, i = im + 1 := ⟨i - 1, by have := HIJ.out; omega⟩
      have HIM := Aside0.mk him
      have w2_ := Aside0.mk (show wrap64 ((i : Int) - 1) = (im : Int) by have := HB.out; have := HIJ.out; rw [w64 (by omega) (by omega)]; omega)
      clear him
      go_wp2
      go_loopg [13] (i + 1) (fun kq v13 w' => ∃ (B1 R : List El), v13 = .int .i64 ((a + B1.length : Nat) : Int) ∧ Aside0 (B = B1 ++ R) ∧ Aside0 (R.length ≤ kq) ∧ Aside0 (kdE.R 35 w' base ok (.slice (some ⟨g, 0, none⟩) L c) (P ++ (B1 ++ (x :: (R ++ Q))))) ∧ Aside0 (KepB W0 w' (fun k => k = g)))
      case atStart => exact ⟨[], B, rfl, ⟨rfl⟩, ⟨by have := HBL.out; omega⟩, HR, HK⟩
      case round =>
        clear HR HK
        obtain ⟨B1, R, rfl, HS, hq, HR, HK⟩ := hrel
        have hw2 := w2_.out
        have hw2W := (i64_w _).trans hw2
        obtain ⟨k, hk⟩ : ∃ k, a + B1.length = k := ⟨_, rfl⟩
        rw [hk]
        have hlenB : a + 1 + (B1.length + R.length) = im + 1 := by
          have h1 := HBL.out
          rw [HS.out, List.length_append] at h1
          have := HIM.out
          omega
        cases R with
        | nil =>
          have hki : k = im := by simp only [List.length_nil] at hlenB; omega
          have c1 : decide ((k : Int) < (im : Int)) = false := decide_eq_false (by omega)
          have c10 : decide (k < im) = false := decide_eq_false (by omega)
          have HFIN : Aside0 (kdE.R 35 wr base ok (.slice (some ⟨g, 0, none⟩) L c) (rot l a (a + 1) i)) := ⟨by
            rw [HRT.out, HS.out, List.append_nil]
            exact HR.out⟩
          clear hk hlenB hq hki
          go_wp2
          (try simp only [Exit.inBlock, Exit.then])
          refine bodyPost_ret (results_none rfl _ _ _) rfl ?_
          exact ⟨rfl, HFIN.out, HK.out⟩
        | cons y R =>
          simp only [List.length_cons] at hlenB
          have c1 : decide ((k : Int) < (im : Int)) = true := decide_eq_true (by omega)
          have c10 : decide (k < im) = true := decide_eq_true (by omega)
          have HBB := HB.out
          have HII := HIJ.out
          have hIM := HIM.out
          obtain ⟨Z, hZ⟩ : ∃ Z, P ++ B1 = Z := ⟨_, rfl⟩
          have hZl : Z.length = k := by rw [← hZ, List.length_append, HP.out, hk]
          rw [show P ++ (B1 ++ (x :: (y :: R ++ Q))) = Z ++ x :: y :: (R ++ Q) by rw [← hZ]; simp] at HR
          obtain ⟨⟨xg, xc, xp⟩, hxe⟩ : ∃ z, x = z := ⟨_, rfl⟩
          obtain ⟨⟨yg, yc, yp⟩, hye⟩ : ∃ z, y = z := ⟨_, rfl⟩
          have tc := two_cells HR.out
          rw [hZl, hxe, hye] at tc
          obtain ⟨tx, txf, ty, tyf⟩ := tc
          replace tx : wr.cell? ⟨g, k, none⟩ = some (.slice (some ⟨xg, 0, none⟩) 2 xc) := tx
          replace ty : wr.cell? ⟨g, k + 1, none⟩ = some (.slice (some ⟨yg, 0, none⟩) 2 yc) := ty
          have hrs : ((Z ++ x :: y :: (R ++ Q)).set k y).set (k + 1) x = P ++ ((B1 ++ [y]) ++ (x :: (R ++ Q))) := by
            rw [← hZl, swap_up, ← hZ]
            simp
          have HPP := Aside0.mk (put_any (put_any HR.out k y) (k + 1) x)
          rw [hrs, show encE x = .slice (some ⟨xg, 0, none⟩) 2 xc by rw [hxe]; rfl, show encE y = .slice (some ⟨yg, 0, none⟩) 2 yc by rw [hye]; rfl] at HPP
          have w3_ := Aside0.mk (show wrap64 ((k : Int) + 1) = (k : Int) + 1 from w64 (by omega) (by omega))
          have HKK := Aside0.mk (show a + (B1 ++ [y]).length = k + 1 by rw [List.length_append, List.length_singleton]; omega)
          have HSS := Aside0.mk (show B = (B1 ++ [y]) ++ R by rw [HS.out]; simp)
          have HQQ := Aside0.mk (show R.length ≤ gk - 1 ∧ 0 < gk by have := hq.out; simp only [List.length_cons] at this; omega)
          have b1 : k + 1 < L := by omega
          have b2 : k < L := by omega
          have b3 : (k : Int) + 1 < (L : Int) := by omega
          have b4 : (k : Int) < (L : Int) := by omega
          have b5 : (0 : Int) ≤ (k : Int) := by omega
          have b6 : (0 : Int) ≤ (k : Int) + 1 := by omega
          have b7 : (k : Int) + 1 ≤ 100000 := by omega
          have hpq : ¬ k = k + 1 := by omega
          have hqp : ¬ k + 1 = k := by omega
          have hw3 := w3_.out
          have hw3W := (i64_w _).trans hw3
          clear hk hlenB hq HBB HII hIM hZ hZl hxe hye hrs
          go_wp2
          go_region
          all_goals go_wp2
          all_goals go_roundg (gk - 1)
          all_goals first
            | (have := HQQ.out; omega)
            | exact ⟨B1 ++ [y], R, by rw [HKK.out]; first | rfl | go_num, HSS, ⟨HQQ.out.1⟩, ⟨by first | exact HPP.out | exact Kd.R_drew HPP.out⟩, ⟨KepB.setCell (KepB.setCell (KepB.drew HK.out) (p := ⟨g, k, none⟩) (.inl rfl) _) (p := ⟨g, k + 1, none⟩) (.inl rfl) _⟩⟩
end Go.Proofs.Ythlnpbdjblocfaa.P

namespace Go.Proofs.Ythlnpbdjblocfaa.P
open Go.RowKit Go.Proofs.Ythlnpbdjblocfaa.Srt Go.Proofs.YthlnpbdjblocfaaW.PrintWords Go.Proofs.YthlnpbdjblocfaaW.PrintLast Go.Proofs.YthlnpbdjblocfaaW.PrintMore Go.Proofs.Ythlnpbdjblocfaa.Pure
set_option linter.unusedVariables false
set_option linter.unusedSimpArgs false
set_option maxHeartbeats 8000000 in
set_option maxRecDepth 100000 in
theorem symLast_calls (g L c base : Nat) (ok : Nat → Prop) (Bc : Nat) (okE : El → Prop) (lt : El → El → Bool) (W0 W : World) (l : List El) (a m : Nat) (hL : L ≤ 1000) (hb : a + 1 < m) (hbL : m + 1 ≤ L) (hlen : l.length = L) (hok : ∀ x ∈ l, okE x) (hC : CmpOk g #[.pointer (some ⟨Bc, 0, none⟩)] okE lt W0)
    (hr : kdE.R 35 W base ok (.slice (some ⟨g, 0, none⟩) L c) l) (hk : KepB W0 W (fun k => k = g)) :
    Calls Try.prog 72 #[.slice (some ⟨g, 0, none⟩) L c, .int .i64 (a : Int), .int .i64 (m : Int), .int .i64 ((m + 1 : Nat) : Int), .func (.func 52) #[] #[.pointer (some ⟨Bc, 0, none⟩)]] W fun e W' => e = .returned (.tuple #[]) ∧ kdE.R 35 W' base ok (.slice (some ⟨g, 0, none⟩) L c) (rot l (bsearch (fun h => !lt l[m]! l[h]!) (m - a) a m) m (m + 1)) ∧ KepB W0 W' (fun k => k = g) := by
  have HR := Aside0.mk hr
  have HK := Aside0.mk hk
  have HC := Aside0.mk hC
  have HOK := Aside0.mk hok
  have HL := Aside0.mk hlen
  have HB := Aside0.mk (show a + 1 < m ∧ m + 1 ≤ L ∧ L ≤ 1000 by omega)
  obtain ⟨T, hT⟩ : ∃ T, bsearch (fun h => !lt l[m]! l[h]!) (m - a) a m = T := ⟨_, rfl⟩
  rw [hT]
  have HT := Aside0.mk hT
  have e9 : (m : Int) + 1 ≤ 100000 := by omega
  obtain ⟨d, hd⟩ : ∃ d, m - a = d := ⟨_, rfl⟩
  have w0_ := Aside0.mk (show wrap64 ((m : Int) - (a : Int)) = (d : Int) by rw [w64 (by omega) (by omega)]; omega)
  have c9 : ((d : Int) == 1) = false := by rw [beq_eq_false_iff_ne]; omega
  have c90 : ¬ ((d : Int) = 1) := by omega
  have c91 : ¬ (d = 1) := by omega
  have w1_ := Aside0.mk (show wrap64 ((m : Int) + 1 - (m : Int)) = 1 by rw [w64 (by omega) (by omega)]; omega)
  rw [hd] at HT
  have HD := Aside0.mk hd
  clear hr hk hC hok hlen hb hbL hL hT hd
  have hw1 := w1_.out
  have hw1W := (i64_w _).trans hw1
  have hw0 := w0_.out
  have hw0W := (i64_w _).trans hw0
  go_enter Try.func72, Try.ntmps72
  go_wp2
  clear hw1 hw1W hw0 hw0W
  go_loopg [14, 15] (m + 1) (fun kq v10 v11 w' => ∃ (i j n : Nat), v10 = .int .i64 (i : Int) ∧ v11 = .int .i64 (j : Int) ∧ Aside0 (a ≤ i ∧ i ≤ j ∧ j ≤ m ∧ j ≤ i + n) ∧ Aside0 (j - i ≤ kq) ∧ Aside0 (bsearch (fun h => !lt l[m]! l[h]!) n i j = T) ∧ Aside0 (kdE.R 35 w' base ok (.slice (some ⟨g, 0, none⟩) L c) l) ∧ Aside0 (KepB W0 w' (fun k => k = g)))
  case atStart => exact ⟨a, m, d, rfl, rfl, ⟨by have := HB.out; have := HD.out; omega⟩, ⟨by omega⟩, HT, HR, HK⟩
  case round =>
    clear HR HK
    obtain ⟨i, j, n, rfl, rfl, hij, hq, HI, HR, HK⟩ := hrel
    by_cases hlt : i < j
    · have c0 : decide ((i : Int) < (j : Int)) = true := decide_eq_true (by omega)
      have c00 : decide (i < j) = true := decide_eq_true hlt
      obtain ⟨h, hh⟩ : ∃ h, (i + j) / 2 = h := ⟨_, rfl⟩
      have HH := Aside0.mk (show i ≤ h ∧ h < j by omega)
      obtain ⟨n', rfl⟩ : ∃ n', n = n' + 1 := ⟨n - 1, by have := hij.out; omega⟩
      have HSQ : Aside0 (T = if (!lt l[m]! l[h]!) = true then bsearch (fun h => !lt l[m]! l[h]!) n' (h + 1) j else bsearch (fun h => !lt l[m]! l[h]!) n' i h) := ⟨by
        rw [← HI.out, bsearch, if_pos hlt, hh]⟩
      have HQ := Aside0.mk (show j - (h + 1) ≤ gk - 1 ∧ h - i ≤ gk - 1 ∧ 0 < gk by have := hq.out; omega)
      have hll := HL.out
      have hbb := HB.out
      obtain ⟨hx, hfx⟩ := cell_any HR.out h (by have := hij.out; omega)
      obtain ⟨hy, hfy⟩ := cell_any HR.out m (by have := hij.out; omega)
      have hxo : okE l[h]! := HOK.out _ (mem_at l h (by have := hij.out; omega))
      have hyo : okE l[m]! := HOK.out _ (mem_at l m (by have := hij.out; omega))
      obtain ⟨⟨xg, xc, xp⟩, hxe⟩ : ∃ z, l[h]! = z := ⟨_, rfl⟩
      obtain ⟨⟨yg, yc, yp⟩, hye⟩ : ∃ z, l[m]! = z := ⟨_, rfl⟩
      have HCC : Aside0 (∀ W', KepB W0 W' (fun k => k = g) → Calls Try.prog 52 #[.slice (some ⟨yg, 0, none⟩) 2 yc, .slice (some ⟨xg, 0, none⟩) 2 xc, .pointer (some ⟨Bc, 0, none⟩)] W' fun e W'' => ∃ v : Int, e = .returned (.int .i64 v) ∧ decide (v < 0) = lt l[m]! l[h]! ∧ Below W'.heap.size W' W'') := ⟨fun W' hk => by
        have h1 := HC.out W' hk _ _ hyo hxo
        rw [show encE l[h]! = .slice (some ⟨xg, 0, none⟩) 2 xc by rw [hxe]; rfl, show encE l[m]! = .slice (some ⟨yg, 0, none⟩) 2 yc by rw [hye]; rfl] at h1
        exact h1⟩
      have HTC : Aside0 (∀ w', kdE.R 35 w' base ok (.slice (some ⟨g, 0, none⟩) L c) l → w'.cell? ⟨g, h, none⟩ = some (.slice (some ⟨xg, 0, none⟩) 2 xc) ∧ w'.cell? ⟨g, m, none⟩ = some (.slice (some ⟨yg, 0, none⟩) 2 yc)) := ⟨fun w' hr => by
        have h1 := (cell_any hr h (by have := hij.out; omega)).1
        have h2 := (cell_any hr m (by have := hij.out; omega)).1
        rw [hxe] at h1
        rw [hye] at h2
        exact ⟨h1, h2⟩⟩
      obtain ⟨tx, ty⟩ := HTC.out _ HR.out
      have p0 : (0 : Int) ≤ (h : Int) := by omega
      have p1 : (h : Int) < (L : Int) := by have := HH.out; have := hij.out; omega
      have p2 : h < L := by omega
      have p3 : (0 : Int) ≤ (m : Int) := by omega
      have p4 : (m : Int) < (L : Int) := by omega
      have p5 : m < L := by omega
      have e8 : (h : Int) + 1 ≤ 100000 := by omega
      have hHf := half i j (by have := hij.out; omega)
      rw [hh] at hHf
      have HHF := Aside0.mk hHf
      have HIJ := Aside0.mk (show a ≤ i ∧ i ≤ j ∧ j ≤ m ∧ j ≤ i + (n' + 1) from hij.out)
      clear hij hq HI hll hbb hx hfx hy hfy hxo hyo hxe hye hHf hh hlt
      go_wp2
      rw [HHF.out]
      go_region_held3 (fun w' => w'.cell? ⟨g, h, none⟩ = some (.slice (some ⟨xg, 0, none⟩) 2 xc) ∧ w'.cell? ⟨g, m, none⟩ = some (.slice (some ⟨yg, 0, none⟩) 2 yc)) (first | exact ⟨tx, ty⟩ | exact HTC.out _ HR.out) ((go_at_call 52; refine (HCC.out _ ?hk_).mono ?_; (case hk_ => first | exact HK.out | exact KepB.drew HK.out); rintro e w5 ⟨v, rfl, hv, hb⟩; have HV := Aside0.mk hv; have hbw : Below wr.heap.size wr w5 := below_step (by repeat (first | (with_reducible first | exact (Below.refl wr.heap.size wr) | apply below_alloc | apply pw_below_drewN | apply below_drew1) | exact (Below.refl wr.heap.size wr)) : Below wr.heap.size wr _) hb; have n0_ := Aside0.mk (KepB.below HK.out hbw); have n1_ := Aside0.mk (Kd.R_below HR.out hbw); clear HK HR; have HK := n0_; have HR := n1_; clear n0_ n1_ hv hb hbw))
      cases hlx : lt l[m]! l[h]! with
      | false =>
        have cv : decide (v < 0) = false := HV.out.trans hlx
        have HNX := Aside0.mk (show bsearch (fun h => !lt l[m]! l[h]!) n' (h + 1) j = T by rw [HSQ.out, if_pos (by rw [hlx]; rfl)])
        clear hlx
        rw [cv]
        try simp only [Bool.not_true, Bool.not_false]
        clear cv
        go_wp2
        go_roundg (gk - 1)
        all_goals first
          | (have := HQ.out; omega)
          | exact ⟨h + 1, j, n', by go_num, rfl, ⟨by have := HIJ.out; have := HH.out; omega⟩, ⟨HQ.out.1⟩, HNX, HR, HK⟩
      | true =>
        have cv : decide (v < 0) = true := HV.out.trans hlx
        have HNX := Aside0.mk (show bsearch (fun h => !lt l[m]! l[h]!) n' i h = T by rw [HSQ.out, if_neg (by rw [hlx]; decide)])
        clear hlx
        rw [cv]
        try simp only [Bool.not_true, Bool.not_false]
        clear cv
        go_wp2
        go_roundg (gk - 1)
        all_goals first
          | (have := HQ.out; omega)
          | exact ⟨i, h, n', rfl, rfl, ⟨by have := HIJ.out; have := HH.out; omega⟩, ⟨HQ.out.2.1⟩, HNX, HR, HK⟩
    · obtain rfl : i = j := by have := hij.out; omega
      have hTi : i = T := by
        have h1 := bsearch_spec (fun h => !lt l[m]! l[h]!) n i i (Nat.le_refl _) (by omega)
        rw [HI.out] at h1
        omega
      subst hTi
      have c0 : decide ((i : Int) < (i : Int)) = false := decide_eq_false (by omega)
      have c00 : decide (i < i) = false := decide_eq_false (by omega)
      have HIJ := Aside0.mk (show a ≤ i ∧ i ≤ m from ⟨hij.out.1, hij.out.2.2.1⟩)
      obtain ⟨P, X, x, Q, hl, hP, hX⟩ : ∃ (P X : List El) (x : El) (Q : List El), l = P ++ (X ++ ([x] ++ Q)) ∧ P.length = i ∧ i + X.length = m := by
        have h1 := HL.out
        have h2 := HB.out
        have h3 := HIJ.out
        refine ⟨l.take i, (l.take m).drop i, l[m]!, l.drop (m + 1), ?_, by rw [List.length_take]; omega, by rw [List.length_drop, List.length_take]; omega⟩
        have e1 : (l.take m).drop i ++ l.drop m = l.drop i := by
          rw [← List.drop_append_of_le_length (by rw [List.length_take]; omega), List.take_append_drop]
        rw [List.singleton_append, getElem!_pos l m (by omega), ← List.drop_eq_getElem_cons (by omega), e1, List.take_append_drop]
      have hrt : rot l i m (m + 1) = P ++ ([x] ++ (X ++ Q)) := by
        have := rot_parts P X [x] Q
        rw [← hl, hP, List.length_singleton, hX] at this
        exact this
      have HRT := Aside0.mk hrt
      rw [hl] at HR
      have HP := Aside0.mk hP
      have HXL := Aside0.mk hX
      clear hl hrt hP hX hij hq HI HT HOK HL
      go_wp2
      go_loopg [17] (m + 1) (fun kq v17 w' => ∃ (X1 R : List El), v17 = .int .i64 ((i + X1.length : Nat) : Int) ∧ Aside0 (X = X1 ++ R) ∧ Aside0 (X1.length ≤ kq) ∧ Aside0 (kdE.R 35 w' base ok (.slice (some ⟨g, 0, none⟩) L c) (P ++ (X1 ++ (x :: (R ++ Q))))) ∧ Aside0 (KepB W0 w' (fun k => k = g)))
      case atStart => exact ⟨X, [], by rw [HXL.out], ⟨by simp⟩, ⟨by have := HXL.out; omega⟩, HR, HK⟩
      case round =>
        clear HR HK
        obtain ⟨X1, R, rfl, HS, hq, HR, HK⟩ := hrel
        obtain ⟨k, hk⟩ : ∃ k, i + X1.length = k := ⟨_, rfl⟩
        rw [hk]
        have hkm : k ≤ m := by
          have h1 := HXL.out
          rw [HS.out, List.length_append] at h1
          omega
        by_cases hki : i < k
        · obtain ⟨B1, y, rfl⟩ : ∃ B1 y, X1 = B1 ++ [y] := ⟨X1.dropLast, X1.getLast (by intro e; subst e; simp at hk; omega), (List.dropLast_concat_getLast _).symm⟩
          obtain ⟨kp, rfl⟩ : ∃ kp, k = kp + 1 := ⟨k - 1, by omega⟩
          have c1 : decide ((i : Int) < (kp : Int) + 1) = true := decide_eq_true (by omega)
          have c10 : decide (i < kp + 1) = true := decide_eq_true hki
          have HBB := HB.out
          obtain ⟨Z, hZ⟩ : ∃ Z, P ++ B1 = Z := ⟨_, rfl⟩
          have hZl : Z.length = kp := by
            rw [List.length_append, List.length_singleton] at hk
            rw [← hZ, List.length_append, HP.out]
            omega
          rw [show P ++ ((B1 ++ [y]) ++ (x :: (R ++ Q))) = Z ++ y :: x :: (R ++ Q) by rw [← hZ]; simp] at HR
          obtain ⟨⟨xg, xc, xp⟩, hxe⟩ : ∃ z, x = z := ⟨_, rfl⟩
          obtain ⟨⟨yg, yc, yp⟩, hye⟩ : ∃ z, y = z := ⟨_, rfl⟩
          have tc := two_cells HR.out
          rw [hZl, hxe, hye] at tc
          obtain ⟨ty, tyf, tx, txf⟩ := tc
          replace tx : wr.cell? ⟨g, kp + 1, none⟩ = some (.slice (some ⟨xg, 0, none⟩) 2 xc) := tx
          replace ty : wr.cell? ⟨g, kp, none⟩ = some (.slice (some ⟨yg, 0, none⟩) 2 yc) := ty
          have hrs : ((Z ++ y :: x :: (R ++ Q)).set (kp + 1) y).set kp x = P ++ (B1 ++ (x :: ((y :: R) ++ Q))) := by
            rw [← hZl, swap_two, ← hZ]
            simp
          have HPP := Aside0.mk (put_any (put_any HR.out (kp + 1) y) kp x)
          rw [hrs, show encE x = .slice (some ⟨xg, 0, none⟩) 2 xc by rw [hxe]; rfl, show encE y = .slice (some ⟨yg, 0, none⟩) 2 yc by rw [hye]; rfl] at HPP
          have w3_ := Aside0.mk (show wrap64 (kp : Int) = (kp : Int) from w64 (by omega) (by omega))
          have HKK := Aside0.mk (show i + B1.length = kp by rw [List.length_append, List.length_singleton] at hk; omega)
          have HSS := Aside0.mk (show X = B1 ++ (y :: R) by rw [HS.out]; simp)
          have HQQ := Aside0.mk (show B1.length ≤ gk - 1 ∧ 0 < gk by have := hq.out; rw [List.length_append, List.length_singleton] at this; omega)
          have b1 : kp + 1 < L := by omega
          have b2 : kp < L := by omega
          have b3 : (kp : Int) + 1 < (L : Int) := by omega
          have b4 : (kp : Int) < (L : Int) := by omega
          have b5 : (0 : Int) ≤ (kp : Int) := by omega
          have b6 : (0 : Int) ≤ (kp : Int) + 1 := by omega
          have b7 : (kp : Int) + 1 ≤ 100000 := by omega
          have hpq : ¬ kp = kp + 1 := by omega
          have hqp : ¬ kp + 1 = kp := by omega
          have hw3 := w3_.out
          have hw3W := (i64_w _).trans hw3
          clear hk hkm hki hq HBB hZ hZl hxe hye hrs
          go_wp2
          go_region
          all_goals go_wp2
          all_goals go_roundg (gk - 1)
          all_goals first
            | (have := HQQ.out; omega)
            | exact ⟨B1, y :: R, by rw [HKK.out], HSS, ⟨HQQ.out.1⟩, ⟨by first | exact HPP.out | exact Kd.R_drew HPP.out⟩, ⟨KepB.setCell (KepB.setCell (KepB.drew HK.out) (p := ⟨g, kp + 1, none⟩) (.inl rfl) _) (p := ⟨g, kp, none⟩) (.inl rfl) _⟩⟩
        · have hX1 : X1 = [] := List.eq_nil_of_length_eq_zero (by omega)
          subst hX1
          have hki2 : k = i := by simp only [List.length_nil] at hk; omega
          subst hki2
          have c1 : decide ((k : Int) < (k : Int)) = false := decide_eq_false (by omega)
          have c10 : decide (k < k) = false := decide_eq_false (by omega)
          have HFIN : Aside0 (kdE.R 35 wr base ok (.slice (some ⟨g, 0, none⟩) L c) (rot l k m (m + 1))) := ⟨by
            rw [HRT.out, HS.out]
            exact HR.out⟩
          clear hk hkm hq hki
          go_wp2
          (try simp only [Exit.inBlock, Exit.then])
          refine bodyPost_ret (results_none rfl _ _ _) rfl ?_
          exact ⟨rfl, HFIN.out, HK.out⟩
end Go.Proofs.Ythlnpbdjblocfaa.P

namespace Go.Proofs.Ythlnpbdjblocfaa.P
open Go.RowKit Go.Proofs.Ythlnpbdjblocfaa.Srt Go.Proofs.YthlnpbdjblocfaaW.PrintWords Go.Proofs.YthlnpbdjblocfaaW.PrintLast Go.Proofs.YthlnpbdjblocfaaW.PrintMore Go.Proofs.Ythlnpbdjblocfaa.Pure
set_option linter.unusedVariables false
set_option linter.unusedSimpArgs false
/-- What symMerge comes to, at one bound of the runs' length. -/
def SymOk (g L c base : Nat) (ok : Nat → Prop) (Bc : Nat) (okE : El → Prop) (lt : El → El → Bool) (W0 : World) (k : Nat) : Prop :=
  ∀ (W : World) (l : List El) (a m b : Nat), a < m → m < b → b ≤ L → b ≤ a + k → l.length = L → (∀ x ∈ l, okE x) → kdE.R 35 W base ok (.slice (some ⟨g, 0, none⟩) L c) l → KepB W0 W (fun k => k = g) →
    Calls Try.prog 72 #[.slice (some ⟨g, 0, none⟩) L c, .int .i64 (a : Int), .int .i64 (m : Int), .int .i64 (b : Int), .func (.func 52) #[] #[.pointer (some ⟨Bc, 0, none⟩)]] W fun e W' => e = .returned (.tuple #[]) ∧ kdE.R 35 W' base ok (.slice (some ⟨g, 0, none⟩) L c) (symM lt k l a m b) ∧ KepB W0 W' (fun k => k = g)
set_option maxHeartbeats 16000000 in
set_option maxRecDepth 100000 in
theorem symGenA (g L c base : Nat) (ok : Nat → Prop) (Bc : Nat) (okE : El → Prop) (lt : El → El → Bool) (W0 : World) (hL : L ≤ 1000) (hC : CmpOk g #[.pointer (some ⟨Bc, 0, none⟩)] okE lt W0) (k : Nat) (ih : SymOk g L c base ok Bc okE lt W0 k)
    (W : World) (l : List El) (a m b mid : Nat) (h1 : a + 1 < m) (h2 : m + 1 < b) (h3 : b ≤ L) (h4 : b ≤ a + (k + 1)) (hmid : (a + b) / 2 = mid) (hmm : mid < m) (hlen : l.length = L) (hok : ∀ x ∈ l, okE x) (hr : kdE.R 35 W base ok (.slice (some ⟨g, 0, none⟩) L c) l) (hk : KepB W0 W (fun k => k = g)) :
    Calls Try.prog 72 #[.slice (some ⟨g, 0, none⟩) L c, .int .i64 (a : Int), .int .i64 (m : Int), .int .i64 (b : Int), .func (.func 52) #[] #[.pointer (some ⟨Bc, 0, none⟩)]] W fun e W' => e = .returned (.tuple #[]) ∧ kdE.R 35 W' base ok (.slice (some ⟨g, 0, none⟩) L c) (symM lt (k + 1) l a m b) ∧ KepB W0 W' (fun k => k = g) := by
  obtain ⟨T, hST⟩ : ∃ T, symT lt l a m b mid = T := ⟨_, rfl⟩
  have htb := symT_bounds lt l a m b mid (by omega) (by omega) hmid
  rw [hST] at htb
  obtain ⟨e, he⟩ : ∃ e, mid + m - T = e := ⟨_, rfl⟩
  rw [he] at htb
  have HTB := Aside0.mk htb
  rw [symM_gen lt k l a m b mid T e (by omega) (by omega) hmid hST he]
  have HEQ := Aside0.mk he
  have HST := Aside0.mk hST
  have HHF := Aside0.mk (show wrap64 (IntKind.u64.wrap (wrap64 ((a : Int) + (b : Int))) / 2) = (mid : Int) by rw [half a b (by omega), hmid])
  obtain ⟨d, hd⟩ : ∃ d, m - a = d := ⟨_, rfl⟩
  obtain ⟨d2, hd2⟩ : ∃ d, b - m = d := ⟨_, rfl⟩
  have w0_ := Aside0.mk (show wrap64 ((m : Int) - (a : Int)) = (d : Int) by rw [w64 (by omega) (by omega)]; omega)
  have w1_ := Aside0.mk (show wrap64 ((b : Int) - (m : Int)) = (d2 : Int) by rw [w64 (by omega) (by omega)]; omega)
  obtain ⟨q, hq⟩ : ∃ z, mid + m = z := ⟨_, rfl⟩
  have w2_ := Aside0.mk (show wrap64 ((mid : Int) + (m : Int)) = (q : Int) by rw [w64 (by omega) (by omega)]; omega)
  have w3_ := Aside0.mk (show wrap64 ((q : Int) - (b : Int)) = (q : Int) - (b : Int) from w64 (by omega) (by omega))
  have w4_ := Aside0.mk (show wrap64 ((q : Int) - 1) = (q : Int) - 1 from w64 (by omega) (by omega))
  have HQM := Aside0.mk hq
  have c9 : ((d : Int) == 1) = false := by rw [beq_eq_false_iff_ne]; omega
  have c90 : ¬ ((d : Int) = 1) := by omega
  have c91 : ¬ (d = 1) := by omega
  have c8 : ((d2 : Int) == 1) = false := by rw [beq_eq_false_iff_ne]; omega
  have c80 : ¬ ((d2 : Int) = 1) := by omega
  have c81 : ¬ (d2 = 1) := by omega
  have HR := Aside0.mk hr
  have HK := Aside0.mk hk
  have HC := Aside0.mk hC
  have HOK := Aside0.mk hok
  have HLN := Aside0.mk hlen
  have HIH := Aside0.mk ih
  have HB := Aside0.mk (show a + 1 < m ∧ m + 1 < b ∧ b ≤ L ∧ L ≤ 1000 ∧ b ≤ a + (k + 1) by omega)
  have HMID := Aside0.mk (show 2 * mid ≤ a + b ∧ a + b ≤ 2 * mid + 1 by omega)
  clear hr hk hok hlen hmid h1 h2 h3 h4 hd hd2 ih hq hST htb hC he
  have c5 : decide ((mid : Int) < (m : Int)) = true := decide_eq_true (by omega)
  have c50 : decide (mid < m) = true := decide_eq_true hmm
  have hw0 := w0_.out; have hw1 := w1_.out
  have hw0W := (i64_w _).trans hw0; have hw1W := (i64_w _).trans hw1
  have hw2 := HHF.out; have hw3 := w2_.out; have hw4 := w3_.out; have hw5 := w4_.out
  have hw3W := (i64_w _).trans hw3; have hw4W := (i64_w _).trans hw4; have hw5W := (i64_w _).trans hw5
  go_enter Try.func72, Try.ntmps72
  go_wp2
  rw [HHF.out]
  clear hw0 hw1 hw0W hw1W hw2 hw3 hw4 hw5 hw3W hw4W hw5W
  obtain ⟨s0, hs0⟩ : ∃ s0, mid + m - b = s0 := ⟨_, rfl⟩
  obtain ⟨r0, hr0⟩ : ∃ r0, mid = r0 := ⟨_, rfl⟩
  have HSR : Aside0 (s0 ≤ r0 ∧ (r0 ≤ b ∧ r0 ≤ s0 + (b - a)) ∧ ∀ h, s0 ≤ h → h < r0 → a ≤ mid + m - 1 - h ∧ mid + m - 1 - h < b ∧ h < b ∧ h + (mid + m - 1 - h) + 1 = mid + m) := ⟨by have := HMID.out; have := HB.out; refine ⟨by omega, by omega, fun h _ _ => by omega⟩⟩
  have hT : bsearch (symP lt l (mid + m)) (b - a) s0 r0 = T := by
    have h1 := HST.out
    unfold symT at h1
    rw [if_pos hmm] at h1
    rw [← hs0, ← hr0]
    exact h1
  have HT := Aside0.mk hT
  have e9 : (b : Int) + 1 ≤ 100000 := by have := HB.out; omega
  have HS0 := Aside0.mk (show (q : Int) - (b : Int) = (s0 : Int) by have := HQM.out; have := HMID.out; have := HB.out; omega)
  rw [HS0.out]
  have HR0 := Aside0.mk hr0
  clear hs0 hT hr0
  go_loopg [20, 21] (L + 1) (fun kq v10 v11 w' => ∃ (i j n : Nat), v10 = .int .i64 (i : Int) ∧ v11 = .int .i64 (j : Int) ∧ Aside0 (s0 ≤ i ∧ i ≤ j ∧ j ≤ r0 ∧ j ≤ i + n) ∧ Aside0 (j - i ≤ kq) ∧ Aside0 (bsearch (symP lt l (mid + m)) n i j = T) ∧ Aside0 (kdE.R 35 w' base ok (.slice (some ⟨g, 0, none⟩) L c) l) ∧ Aside0 (KepB W0 w' (fun k => k = g)))
  case atStart => exact ⟨s0, r0, b - a, rfl, by rw [← HR0.out], ⟨by have := HB.out; have := HSR.out; omega⟩, ⟨by have := HB.out; have := HSR.out; omega⟩, HT, HR, HK⟩
  case round =>
    clear HR HK
    obtain ⟨i, j, n, rfl, rfl, hij, hq, HI, HR, HK⟩ := hrel
    by_cases hlt : i < j
    · have c0 : decide ((i : Int) < (j : Int)) = true := decide_eq_true (by omega)
      have c00 : decide (i < j) = true := decide_eq_true hlt
      obtain ⟨h, hh⟩ : ∃ h, (i + j) / 2 = h := ⟨_, rfl⟩
      have HH := Aside0.mk (show i ≤ h ∧ h < j by omega)
      have hsr := HSR.out
      have hij0 := hij.out
      obtain ⟨u, hu⟩ : ∃ u, mid + m - 1 - h = u := ⟨_, rfl⟩
      have huu := HSR.out.2.2 h (by have := HH.out; omega) (by have := HH.out; omega)
      rw [hu] at huu
      have w6_ := Aside0.mk (show wrap64 ((q : Int) - 1 - (h : Int)) = (u : Int) by have := HQM.out; have := HB.out; rw [w64 (by omega) (by omega)]; omega)
      obtain ⟨n', rfl⟩ : ∃ n', n = n' + 1 := ⟨n - 1, by have := hij.out; have := HB.out; omega⟩
      have HSQ : Aside0 (T = if (!lt l[u]! l[h]!) = true then bsearch (symP lt l (mid + m)) n' (h + 1) j else bsearch (symP lt l (mid + m)) n' i h) := ⟨by
        rw [← HI.out, bsearch, if_pos hlt, hh, show symP lt l (mid + m) h = (!lt l[u]! l[h]!) from by unfold symP; rw [hu]]⟩
      have HQ := Aside0.mk (show j - (h + 1) ≤ gk - 1 ∧ h - i ≤ gk - 1 ∧ 0 < gk by have := hq.out; omega)
      have hll := HLN.out
      have hbb := HB.out
      obtain ⟨hx, hfx⟩ := cell_any HR.out h (by have := hij.out; have := HB.out; omega)
      obtain ⟨hy, hfy⟩ := cell_any HR.out u (by have := hij.out; have := HB.out; omega)
      have hxo : okE l[h]! := HOK.out _ (mem_at l h (by have := hij.out; have := HB.out; omega))
      have hyo : okE l[u]! := HOK.out _ (mem_at l u (by have := hij.out; have := HB.out; omega))
      obtain ⟨⟨xg, xc, xp⟩, hxe⟩ : ∃ z, l[h]! = z := ⟨_, rfl⟩
      obtain ⟨⟨yg, yc, yp⟩, hye⟩ : ∃ z, l[u]! = z := ⟨_, rfl⟩
      have HCC : Aside0 (∀ W', KepB W0 W' (fun k => k = g) → Calls Try.prog 52 #[.slice (some ⟨yg, 0, none⟩) 2 yc, .slice (some ⟨xg, 0, none⟩) 2 xc, .pointer (some ⟨Bc, 0, none⟩)] W' fun e W'' => ∃ v : Int, e = .returned (.int .i64 v) ∧ decide (v < 0) = lt l[u]! l[h]! ∧ Below W'.heap.size W' W'') := ⟨fun W' hk => by
        have h1 := HC.out W' hk _ _ hyo hxo
        rw [show encE l[h]! = .slice (some ⟨xg, 0, none⟩) 2 xc by rw [hxe]; rfl, show encE l[u]! = .slice (some ⟨yg, 0, none⟩) 2 yc by rw [hye]; rfl] at h1
        exact h1⟩
      have HTC : Aside0 (∀ w', kdE.R 35 w' base ok (.slice (some ⟨g, 0, none⟩) L c) l → w'.cell? ⟨g, h, none⟩ = some (.slice (some ⟨xg, 0, none⟩) 2 xc) ∧ w'.cell? ⟨g, u, none⟩ = some (.slice (some ⟨yg, 0, none⟩) 2 yc)) := ⟨fun w' hr => by
        have h1 := (cell_any hr h (by have := hij.out; have := HB.out; omega)).1
        have h2 := (cell_any hr u (by have := hij.out; have := HB.out; omega)).1
        rw [hxe] at h1
        rw [hye] at h2
        exact ⟨h1, h2⟩⟩
      obtain ⟨tx, ty⟩ := HTC.out _ HR.out
      have p0 : (0 : Int) ≤ (h : Int) := by omega
      have p1 : (h : Int) < (L : Int) := by have := HH.out; have := hij.out; omega
      have p2 : h < L := by omega
      have p3 : (0 : Int) ≤ (u : Int) := by omega
      have p4 : (u : Int) < (L : Int) := by omega
      have p5 : u < L := by omega
      have e8 : (h : Int) + 1 ≤ 100000 := by omega
      have hHf := half i j (by have := hij.out; have := HB.out; omega)
      rw [hh] at hHf
      have HHF := Aside0.mk hHf
      have HIJ := Aside0.mk (show s0 ≤ i ∧ i ≤ j ∧ j ≤ r0 ∧ j ≤ i + (n' + 1) from hij.out)
      clear hij hq HI hll hbb hx hfx hy hfy hxo hyo hxe hye hHf hh hlt hu huu hsr hij0
      have hw6 := w6_.out
      have hw6W := (i64_w _).trans hw6
      go_wp2
      rw [HHF.out]
      go_region_held3 (fun w' => w'.cell? ⟨g, h, none⟩ = some (.slice (some ⟨xg, 0, none⟩) 2 xc) ∧ w'.cell? ⟨g, u, none⟩ = some (.slice (some ⟨yg, 0, none⟩) 2 yc)) (first | exact ⟨tx, ty⟩ | exact HTC.out _ HR.out) ((go_at_call 52; refine (HCC.out _ ?hk_).mono ?_; (case hk_ => first | exact HK.out | exact KepB.drew HK.out); rintro e w5 ⟨v, rfl, hv, hb⟩; have HV := Aside0.mk hv; have hbw : Below wr.heap.size wr w5 := below_step (by repeat (first | (with_reducible first | exact (Below.refl wr.heap.size wr) | apply below_alloc | apply pw_below_drewN | apply below_drew1) | exact (Below.refl wr.heap.size wr)) : Below wr.heap.size wr _) hb; have n0_ := Aside0.mk (KepB.below HK.out hbw); have n1_ := Aside0.mk (Kd.R_below HR.out hbw); clear HK HR; have HK := n0_; have HR := n1_; clear n0_ n1_ hv hb hbw))
      cases hlx : lt l[u]! l[h]! with
      | false =>
        have cv : decide (v < 0) = false := HV.out.trans hlx
        have HNX := Aside0.mk (show bsearch (symP lt l (mid + m)) n' (h + 1) j = T by rw [HSQ.out, if_pos (by rw [hlx]; rfl)])
        clear hlx
        rw [cv]
        try simp only [Bool.not_true, Bool.not_false]
        clear cv
        go_wp2
        go_roundg (gk - 1)
        all_goals first
          | (have := HQ.out; omega)
          | exact ⟨h + 1, j, n', by go_num, rfl, ⟨by have := HIJ.out; have := HH.out; omega⟩, ⟨HQ.out.1⟩, HNX, HR, HK⟩
      | true =>
        have cv : decide (v < 0) = true := HV.out.trans hlx
        have HNX := Aside0.mk (show bsearch (symP lt l (mid + m)) n' i h = T by rw [HSQ.out, if_neg (by rw [hlx]; decide)])
        clear hlx
        rw [cv]
        try simp only [Bool.not_true, Bool.not_false]
        clear cv
        go_wp2
        go_roundg (gk - 1)
        all_goals first
          | (have := HQ.out; omega)
          | exact ⟨i, h, n', rfl, rfl, ⟨by have := HIJ.out; have := HH.out; omega⟩, ⟨HQ.out.2.1⟩, HNX, HR, HK⟩
    · obtain rfl : i = j := by have := hij.out; omega
      have hTi : i = T := by
        have h1 := bsearch_spec (symP lt l (mid + m)) n i i (Nat.le_refl _) (by omega)
        rw [HI.out] at h1
        omega
      subst hTi
      have c0 : decide ((i : Int) < (i : Int)) = false := decide_eq_false (by omega)
      have c00 : decide (i < i) = false := decide_eq_false (by omega)
      have hb_ := HB.out
      have htb := HTB.out
      have hmd := HMID.out
      have hqm := HQM.out
      have he := HEQ.out
      have HEE := Aside0.mk (show wrap64 ((q : Int) - (i : Int)) = (e : Int) by rw [w64 (by omega) (by omega)]; omega)
      have hsp : i ≤ m ∧ i ≤ mid ∧ e + i = mid + m ∧ 2 * mid ≤ a + b ∧ a + b ≤ 2 * mid + 1 ∧ mid < m := by omega
      clear hij hq HI HT hqm he hmd
      by_cases hk : i < mid
      · by_cases ha : a < i
        · by_cases he : e < b
          · have d1 : decide ((i : Int) < (m : Int)) = true := decide_eq_true (by omega)
            have d1n : decide (i < m) = true := decide_eq_true (by omega)
            have d2 : decide ((m : Int) < (e : Int)) = true := decide_eq_true (by omega)
            have d2n : decide (m < e) = true := decide_eq_true (by omega)
            have d3 : decide ((a : Int) < (i : Int)) = true := decide_eq_true (by omega)
            have d3n : decide (a < i) = true := decide_eq_true (by omega)
            have d4 : decide ((i : Int) < (mid : Int)) = true := decide_eq_true (by omega)
            have d4n : decide (i < mid) = true := decide_eq_true (by omega)
            have d5 : decide ((mid : Int) < (e : Int)) = true := decide_eq_true (by omega)
            have d5n : decide (mid < e) = true := decide_eq_true (by omega)
            have d6 : decide ((e : Int) < (b : Int)) = true := decide_eq_true (by omega)
            have d6n : decide (e < b) = true := decide_eq_true (by omega)
            have HL1 := Aside0.mk (show (rot l i m e).length = L by rw [(rot_perm l i m e (by omega) (by omega) (by rw [HLN.out]; omega)).length_eq]; exact HLN.out)
            have HO1 := Aside0.mk (show ∀ x ∈ rot l i m e, okE x from fun x hx => HOK.out x ((rot_perm l i m e (by omega) (by omega) (by rw [HLN.out]; omega)).mem_iff.1 hx))
            have HX1 := Aside0.mk (show i < m ∧ m < e ∧ e ≤ L by omega)
            have HX2 := Aside0.mk (show a < i ∧ i < mid ∧ mid ≤ L ∧ mid ≤ a + k by omega)
            have PP2 := symM_perm lt k (rot l i m e) a i mid (by omega) (by omega) (by rw [HL1.out]; omega)
            have HL2 := Aside0.mk (PP2.length_eq.trans HL1.out)
            have HO2 := Aside0.mk (show ∀ x ∈ symM lt k (rot l i m e) a i mid, okE x from fun x hx => HO1.out x (PP2.mem_iff.1 hx))
            clear PP2
            have HX3 := Aside0.mk (show mid < e ∧ e < b ∧ b ≤ L ∧ b ≤ mid + k by omega)
            have HE := Aside0.mk (show symA lt k (symA lt k (symR l i m e) a i mid) mid e b = symM lt k (symM lt k (rot l i m e) a i mid) mid e b by rw [show symR l i m e = rot l i m e from if_pos (by omega), show symA lt k (rot l i m e) a i mid = symM lt k (rot l i m e) a i mid from if_pos (by omega), show symA lt k (symM lt k (rot l i m e) a i mid) mid e b = symM lt k (symM lt k (rot l i m e) a i mid) mid e b from if_pos (by omega)])
            clear hb_ htb hsp
            have hwe := HEE.out
            have hweW := (i64_w _).trans hwe
            go_wp2_with (first | (go_at_call 72; refine (HIH.out w6 (symM lt k (rot l i m e) a i mid) mid e b HX3.out.1 HX3.out.2.1 HX3.out.2.2.1 HX3.out.2.2.2 HL2.out HO2.out HR.out HK.out).mono ?_; rintro ev w7 ⟨rfl, hr5, hk5⟩; have n0_ := Aside0.mk hr5; have n1_ := Aside0.mk hk5; clear hr5 hk5 HR HK; have HR := n0_; have HK := n1_; clear n0_ n1_) | (go_at_call 72; refine (HIH.out w5 (rot l i m e) a i mid HX2.out.1 HX2.out.2.1 HX2.out.2.2.1 HX2.out.2.2.2 HL1.out HO1.out HR.out HK.out).mono ?_; rintro ev w6 ⟨rfl, hr5, hk5⟩; have n0_ := Aside0.mk hr5; have n1_ := Aside0.mk hk5; clear hr5 hk5 HR HK; have HR := n0_; have HK := n1_; clear n0_ n1_) | (go_at_call 74; refine (rotate_calls g L c base ok W0 _ l _ i m e HX1.out.1 HX1.out.2.1 HX1.out.2.2 HB.out.2.2.2.1 HLN.out HR.out HK.out).mono ?_; rintro ev w5 ⟨rfl, hr5, hk5⟩; have n0_ := Aside0.mk hr5; have n1_ := Aside0.mk hk5; clear hr5 hk5 HR HK; have HR := n0_; have HK := n1_; clear n0_ n1_))
            go_end0
            exact ⟨rfl, by rw [HE.out]; exact HR.out, HK.out⟩
          · have d1 : decide ((i : Int) < (m : Int)) = true := decide_eq_true (by omega)
            have d1n : decide (i < m) = true := decide_eq_true (by omega)
            have d2 : decide ((m : Int) < (e : Int)) = true := decide_eq_true (by omega)
            have d2n : decide (m < e) = true := decide_eq_true (by omega)
            have d3 : decide ((a : Int) < (i : Int)) = true := decide_eq_true (by omega)
            have d3n : decide (a < i) = true := decide_eq_true (by omega)
            have d4 : decide ((i : Int) < (mid : Int)) = true := decide_eq_true (by omega)
            have d4n : decide (i < mid) = true := decide_eq_true (by omega)
            have d5 : decide ((mid : Int) < (e : Int)) = true := decide_eq_true (by omega)
            have d5n : decide (mid < e) = true := decide_eq_true (by omega)
            have d6 : decide ((e : Int) < (b : Int)) = false := decide_eq_false (by omega)
            have d6n : decide (e < b) = false := decide_eq_false (by omega)
            have HL1 := Aside0.mk (show (rot l i m e).length = L by rw [(rot_perm l i m e (by omega) (by omega) (by rw [HLN.out]; omega)).length_eq]; exact HLN.out)
            have HO1 := Aside0.mk (show ∀ x ∈ rot l i m e, okE x from fun x hx => HOK.out x ((rot_perm l i m e (by omega) (by omega) (by rw [HLN.out]; omega)).mem_iff.1 hx))
            have HX1 := Aside0.mk (show i < m ∧ m < e ∧ e ≤ L by omega)
            have HX2 := Aside0.mk (show a < i ∧ i < mid ∧ mid ≤ L ∧ mid ≤ a + k by omega)
            have PP2 := symM_perm lt k (rot l i m e) a i mid (by omega) (by omega) (by rw [HL1.out]; omega)
            have HL2 := Aside0.mk (PP2.length_eq.trans HL1.out)
            have HO2 := Aside0.mk (show ∀ x ∈ symM lt k (rot l i m e) a i mid, okE x from fun x hx => HO1.out x (PP2.mem_iff.1 hx))
            clear PP2
            have HE := Aside0.mk (show symA lt k (symA lt k (symR l i m e) a i mid) mid e b = symM lt k (rot l i m e) a i mid by rw [show symR l i m e = rot l i m e from if_pos (by omega), show symA lt k (rot l i m e) a i mid = symM lt k (rot l i m e) a i mid from if_pos (by omega), show symA lt k (symM lt k (rot l i m e) a i mid) mid e b = symM lt k (rot l i m e) a i mid from if_neg (by omega)])
            clear hb_ htb hsp
            have hwe := HEE.out
            have hweW := (i64_w _).trans hwe
            go_wp2_with (first | (go_at_call 72; refine (HIH.out w5 (rot l i m e) a i mid HX2.out.1 HX2.out.2.1 HX2.out.2.2.1 HX2.out.2.2.2 HL1.out HO1.out HR.out HK.out).mono ?_; rintro ev w6 ⟨rfl, hr5, hk5⟩; have n0_ := Aside0.mk hr5; have n1_ := Aside0.mk hk5; clear hr5 hk5 HR HK; have HR := n0_; have HK := n1_; clear n0_ n1_) | (go_at_call 74; refine (rotate_calls g L c base ok W0 _ l _ i m e HX1.out.1 HX1.out.2.1 HX1.out.2.2 HB.out.2.2.2.1 HLN.out HR.out HK.out).mono ?_; rintro ev w5 ⟨rfl, hr5, hk5⟩; have n0_ := Aside0.mk hr5; have n1_ := Aside0.mk hk5; clear hr5 hk5 HR HK; have HR := n0_; have HK := n1_; clear n0_ n1_))
            go_end0
            exact ⟨rfl, by rw [HE.out]; exact HR.out, HK.out⟩
        · by_cases he : e < b
          · have d1 : decide ((i : Int) < (m : Int)) = true := decide_eq_true (by omega)
            have d1n : decide (i < m) = true := decide_eq_true (by omega)
            have d2 : decide ((m : Int) < (e : Int)) = true := decide_eq_true (by omega)
            have d2n : decide (m < e) = true := decide_eq_true (by omega)
            have d3 : decide ((a : Int) < (i : Int)) = false := decide_eq_false (by omega)
            have d3n : decide (a < i) = false := decide_eq_false (by omega)
            have d5 : decide ((mid : Int) < (e : Int)) = true := decide_eq_true (by omega)
            have d5n : decide (mid < e) = true := decide_eq_true (by omega)
            have d6 : decide ((e : Int) < (b : Int)) = true := decide_eq_true (by omega)
            have d6n : decide (e < b) = true := decide_eq_true (by omega)
            have HL1 := Aside0.mk (show (rot l i m e).length = L by rw [(rot_perm l i m e (by omega) (by omega) (by rw [HLN.out]; omega)).length_eq]; exact HLN.out)
            have HO1 := Aside0.mk (show ∀ x ∈ rot l i m e, okE x from fun x hx => HOK.out x ((rot_perm l i m e (by omega) (by omega) (by rw [HLN.out]; omega)).mem_iff.1 hx))
            have HX1 := Aside0.mk (show i < m ∧ m < e ∧ e ≤ L by omega)
            have HX3 := Aside0.mk (show mid < e ∧ e < b ∧ b ≤ L ∧ b ≤ mid + k by omega)
            have HE := Aside0.mk (show symA lt k (symA lt k (symR l i m e) a i mid) mid e b = symM lt k (rot l i m e) mid e b by rw [show symR l i m e = rot l i m e from if_pos (by omega), show symA lt k (rot l i m e) a i mid = rot l i m e from if_neg (by omega), show symA lt k (rot l i m e) mid e b = symM lt k (rot l i m e) mid e b from if_pos (by omega)])
            clear hb_ htb hsp
            have hwe := HEE.out
            have hweW := (i64_w _).trans hwe
            go_wp2_with (first | (go_at_call 72; refine (HIH.out w5 (rot l i m e) mid e b HX3.out.1 HX3.out.2.1 HX3.out.2.2.1 HX3.out.2.2.2 HL1.out HO1.out HR.out HK.out).mono ?_; rintro ev w6 ⟨rfl, hr5, hk5⟩; have n0_ := Aside0.mk hr5; have n1_ := Aside0.mk hk5; clear hr5 hk5 HR HK; have HR := n0_; have HK := n1_; clear n0_ n1_) | (go_at_call 74; refine (rotate_calls g L c base ok W0 _ l _ i m e HX1.out.1 HX1.out.2.1 HX1.out.2.2 HB.out.2.2.2.1 HLN.out HR.out HK.out).mono ?_; rintro ev w5 ⟨rfl, hr5, hk5⟩; have n0_ := Aside0.mk hr5; have n1_ := Aside0.mk hk5; clear hr5 hk5 HR HK; have HR := n0_; have HK := n1_; clear n0_ n1_))
            go_end0
            exact ⟨rfl, by rw [HE.out]; exact HR.out, HK.out⟩
          · have d1 : decide ((i : Int) < (m : Int)) = true := decide_eq_true (by omega)
            have d1n : decide (i < m) = true := decide_eq_true (by omega)
            have d2 : decide ((m : Int) < (e : Int)) = true := decide_eq_true (by omega)
            have d2n : decide (m < e) = true := decide_eq_true (by omega)
            have d3 : decide ((a : Int) < (i : Int)) = false := decide_eq_false (by omega)
            have d3n : decide (a < i) = false := decide_eq_false (by omega)
            have d5 : decide ((mid : Int) < (e : Int)) = true := decide_eq_true (by omega)
            have d5n : decide (mid < e) = true := decide_eq_true (by omega)
            have d6 : decide ((e : Int) < (b : Int)) = false := decide_eq_false (by omega)
            have d6n : decide (e < b) = false := decide_eq_false (by omega)
            have HL1 := Aside0.mk (show (rot l i m e).length = L by rw [(rot_perm l i m e (by omega) (by omega) (by rw [HLN.out]; omega)).length_eq]; exact HLN.out)
            have HO1 := Aside0.mk (show ∀ x ∈ rot l i m e, okE x from fun x hx => HOK.out x ((rot_perm l i m e (by omega) (by omega) (by rw [HLN.out]; omega)).mem_iff.1 hx))
            have HX1 := Aside0.mk (show i < m ∧ m < e ∧ e ≤ L by omega)
            have HE := Aside0.mk (show symA lt k (symA lt k (symR l i m e) a i mid) mid e b = rot l i m e by rw [show symR l i m e = rot l i m e from if_pos (by omega), show symA lt k (rot l i m e) a i mid = rot l i m e from if_neg (by omega), show symA lt k (rot l i m e) mid e b = rot l i m e from if_neg (by omega)])
            clear hb_ htb hsp
            have hwe := HEE.out
            have hweW := (i64_w _).trans hwe
            go_wp2_with (first | (go_at_call 74; refine (rotate_calls g L c base ok W0 _ l _ i m e HX1.out.1 HX1.out.2.1 HX1.out.2.2 HB.out.2.2.2.1 HLN.out HR.out HK.out).mono ?_; rintro ev w5 ⟨rfl, hr5, hk5⟩; have n0_ := Aside0.mk hr5; have n1_ := Aside0.mk hk5; clear hr5 hk5 HR HK; have HR := n0_; have HK := n1_; clear n0_ n1_))
            go_end0
            exact ⟨rfl, by rw [HE.out]; exact HR.out, HK.out⟩
      · have d1 : decide ((i : Int) < (m : Int)) = true := decide_eq_true (by omega)
        have d1n : decide (i < m) = true := decide_eq_true (by omega)
        have d2 : decide ((m : Int) < (e : Int)) = false := decide_eq_false (by omega)
        have d2n : decide (m < e) = false := decide_eq_false (by omega)
        have d3 : decide ((a : Int) < (i : Int)) = true := decide_eq_true (by omega)
        have d3n : decide (a < i) = true := decide_eq_true (by omega)
        have d4 : decide ((i : Int) < (mid : Int)) = false := decide_eq_false (by omega)
        have d4n : decide (i < mid) = false := decide_eq_false (by omega)
        have d5 : decide ((mid : Int) < (e : Int)) = true := decide_eq_true (by omega)
        have d5n : decide (mid < e) = true := decide_eq_true (by omega)
        have d6 : decide ((e : Int) < (b : Int)) = true := decide_eq_true (by omega)
        have d6n : decide (e < b) = true := decide_eq_true (by omega)
        have HX3 := Aside0.mk (show mid < e ∧ e < b ∧ b ≤ L ∧ b ≤ mid + k by omega)
        have HE := Aside0.mk (show symA lt k (symA lt k (symR l i m e) a i mid) mid e b = symM lt k (l) mid e b by rw [show symR l i m e = l from if_neg (by omega), show symA lt k (l) a i mid = l from if_neg (by omega), show symA lt k (l) mid e b = symM lt k (l) mid e b from if_pos (by omega)])
        clear hb_ htb hsp
        have hwe := HEE.out
        have hweW := (i64_w _).trans hwe
        go_wp2_with (first | (go_at_call 72; refine (HIH.out wr (l) mid e b HX3.out.1 HX3.out.2.1 HX3.out.2.2.1 HX3.out.2.2.2 HLN.out HOK.out HR.out HK.out).mono ?_; rintro ev w6 ⟨rfl, hr5, hk5⟩; have n0_ := Aside0.mk hr5; have n1_ := Aside0.mk hk5; clear hr5 hk5 HR HK; have HR := n0_; have HK := n1_; clear n0_ n1_))
        go_end0
        exact ⟨rfl, by rw [HE.out]; exact HR.out, HK.out⟩
end Go.Proofs.Ythlnpbdjblocfaa.P

namespace Go.Proofs.Ythlnpbdjblocfaa.P
open Go.RowKit Go.Proofs.Ythlnpbdjblocfaa.Srt Go.Proofs.YthlnpbdjblocfaaW.PrintWords Go.Proofs.YthlnpbdjblocfaaW.PrintLast Go.Proofs.YthlnpbdjblocfaaW.PrintMore Go.Proofs.Ythlnpbdjblocfaa.Pure
set_option linter.unusedVariables false
set_option linter.unusedSimpArgs false
set_option maxHeartbeats 16000000 in
set_option maxRecDepth 100000 in
theorem symGenB (g L c base : Nat) (ok : Nat → Prop) (Bc : Nat) (okE : El → Prop) (lt : El → El → Bool) (W0 : World) (hL : L ≤ 1000) (hC : CmpOk g #[.pointer (some ⟨Bc, 0, none⟩)] okE lt W0) (k : Nat) (ih : SymOk g L c base ok Bc okE lt W0 k)
    (W : World) (l : List El) (a m b mid : Nat) (h1 : a + 1 < m) (h2 : m + 1 < b) (h3 : b ≤ L) (h4 : b ≤ a + (k + 1)) (hmid : (a + b) / 2 = mid) (hmm : ¬ mid < m) (hlen : l.length = L) (hok : ∀ x ∈ l, okE x) (hr : kdE.R 35 W base ok (.slice (some ⟨g, 0, none⟩) L c) l) (hk : KepB W0 W (fun k => k = g)) :
    Calls Try.prog 72 #[.slice (some ⟨g, 0, none⟩) L c, .int .i64 (a : Int), .int .i64 (m : Int), .int .i64 (b : Int), .func (.func 52) #[] #[.pointer (some ⟨Bc, 0, none⟩)]] W fun e W' => e = .returned (.tuple #[]) ∧ kdE.R 35 W' base ok (.slice (some ⟨g, 0, none⟩) L c) (symM lt (k + 1) l a m b) ∧ KepB W0 W' (fun k => k = g) := by
  obtain ⟨T, hST⟩ : ∃ T, symT lt l a m b mid = T := ⟨_, rfl⟩
  have htb := symT_bounds lt l a m b mid (by omega) (by omega) hmid
  rw [hST] at htb
  obtain ⟨e, he⟩ : ∃ e, mid + m - T = e := ⟨_, rfl⟩
  rw [he] at htb
  have HTB := Aside0.mk htb
  rw [symM_gen lt k l a m b mid T e (by omega) (by omega) hmid hST he]
  have HEQ := Aside0.mk he
  have HST := Aside0.mk hST
  have HHF := Aside0.mk (show wrap64 (IntKind.u64.wrap (wrap64 ((a : Int) + (b : Int))) / 2) = (mid : Int) by rw [half a b (by omega), hmid])
  obtain ⟨d, hd⟩ : ∃ d, m - a = d := ⟨_, rfl⟩
  obtain ⟨d2, hd2⟩ : ∃ d, b - m = d := ⟨_, rfl⟩
  have w0_ := Aside0.mk (show wrap64 ((m : Int) - (a : Int)) = (d : Int) by rw [w64 (by omega) (by omega)]; omega)
  have w1_ := Aside0.mk (show wrap64 ((b : Int) - (m : Int)) = (d2 : Int) by rw [w64 (by omega) (by omega)]; omega)
  obtain ⟨q, hq⟩ : ∃ z, mid + m = z := ⟨_, rfl⟩
  have w2_ := Aside0.mk (show wrap64 ((mid : Int) + (m : Int)) = (q : Int) by rw [w64 (by omega) (by omega)]; omega)
  have w3_ := Aside0.mk (show wrap64 ((q : Int) - (b : Int)) = (q : Int) - (b : Int) from w64 (by omega) (by omega))
  have w4_ := Aside0.mk (show wrap64 ((q : Int) - 1) = (q : Int) - 1 from w64 (by omega) (by omega))
  have HQM := Aside0.mk hq
  have c9 : ((d : Int) == 1) = false := by rw [beq_eq_false_iff_ne]; omega
  have c90 : ¬ ((d : Int) = 1) := by omega
  have c91 : ¬ (d = 1) := by omega
  have c8 : ((d2 : Int) == 1) = false := by rw [beq_eq_false_iff_ne]; omega
  have c80 : ¬ ((d2 : Int) = 1) := by omega
  have c81 : ¬ (d2 = 1) := by omega
  have HR := Aside0.mk hr
  have HK := Aside0.mk hk
  have HC := Aside0.mk hC
  have HOK := Aside0.mk hok
  have HLN := Aside0.mk hlen
  have HIH := Aside0.mk ih
  have HB := Aside0.mk (show a + 1 < m ∧ m + 1 < b ∧ b ≤ L ∧ L ≤ 1000 ∧ b ≤ a + (k + 1) by omega)
  have HMID := Aside0.mk (show 2 * mid ≤ a + b ∧ a + b ≤ 2 * mid + 1 by omega)
  clear hr hk hok hlen hmid h1 h2 h3 h4 hd hd2 ih hq hST htb hC he
  have c5 : decide ((mid : Int) < (m : Int)) = false := decide_eq_false (by omega)
  have c50 : decide (mid < m) = false := decide_eq_false hmm
  have hw0 := w0_.out; have hw1 := w1_.out
  have hw0W := (i64_w _).trans hw0; have hw1W := (i64_w _).trans hw1
  have hw2 := HHF.out; have hw3 := w2_.out; have hw5 := w4_.out
  have hw3W := (i64_w _).trans hw3; have hw5W := (i64_w _).trans hw5
  go_enter Try.func72, Try.ntmps72
  go_wp2
  rw [HHF.out]
  clear hw0 hw1 hw0W hw1W hw2 hw3 hw5 hw3W hw5W
  obtain ⟨s0, hs0⟩ : ∃ s0, a = s0 := ⟨_, rfl⟩
  obtain ⟨r0, hr0⟩ : ∃ r0, m = r0 := ⟨_, rfl⟩
  have HSR : Aside0 (s0 ≤ r0 ∧ (r0 ≤ b ∧ r0 ≤ s0 + (b - a)) ∧ ∀ h, s0 ≤ h → h < r0 → a ≤ mid + m - 1 - h ∧ mid + m - 1 - h < b ∧ h < b ∧ h + (mid + m - 1 - h) + 1 = mid + m) := ⟨by have := HMID.out; have := HB.out; refine ⟨by omega, by omega, fun h _ _ => by omega⟩⟩
  have hT : bsearch (symP lt l (mid + m)) (b - a) s0 r0 = T := by
    have h1 := HST.out
    unfold symT at h1
    rw [if_neg hmm] at h1
    rw [← hs0, ← hr0]
    exact h1
  have HT := Aside0.mk hT
  have e9 : (b : Int) + 1 ≤ 100000 := by have := HB.out; omega
  have HR0 := Aside0.mk hr0
  have HS0 := Aside0.mk hs0; clear hs0 hT hr0
  go_loopg [20, 21] (L + 1) (fun kq v10 v11 w' => ∃ (i j n : Nat), v10 = .int .i64 (i : Int) ∧ v11 = .int .i64 (j : Int) ∧ Aside0 (s0 ≤ i ∧ i ≤ j ∧ j ≤ r0 ∧ j ≤ i + n) ∧ Aside0 (j - i ≤ kq) ∧ Aside0 (bsearch (symP lt l (mid + m)) n i j = T) ∧ Aside0 (kdE.R 35 w' base ok (.slice (some ⟨g, 0, none⟩) L c) l) ∧ Aside0 (KepB W0 w' (fun k => k = g)))
  case atStart => exact ⟨s0, r0, b - a, by rw [← HS0.out], by rw [← HR0.out], ⟨by have := HB.out; have := HSR.out; omega⟩, ⟨by have := HB.out; have := HSR.out; omega⟩, HT, HR, HK⟩
  case round =>
    clear HR HK
    obtain ⟨i, j, n, rfl, rfl, hij, hq, HI, HR, HK⟩ := hrel
    by_cases hlt : i < j
    · have c0 : decide ((i : Int) < (j : Int)) = true := decide_eq_true (by omega)
      have c00 : decide (i < j) = true := decide_eq_true hlt
      obtain ⟨h, hh⟩ : ∃ h, (i + j) / 2 = h := ⟨_, rfl⟩
      have HH := Aside0.mk (show i ≤ h ∧ h < j by omega)
      have hsr := HSR.out
      have hij0 := hij.out
      obtain ⟨u, hu⟩ : ∃ u, mid + m - 1 - h = u := ⟨_, rfl⟩
      have huu := HSR.out.2.2 h (by have := HH.out; omega) (by have := HH.out; omega)
      rw [hu] at huu
      have w6_ := Aside0.mk (show wrap64 ((q : Int) - 1 - (h : Int)) = (u : Int) by have := HQM.out; have := HB.out; rw [w64 (by omega) (by omega)]; omega)
      obtain ⟨n', rfl⟩ : ∃ n', n = n' + 1 := ⟨n - 1, by have := hij.out; have := HB.out; omega⟩
      have HSQ : Aside0 (T = if (!lt l[u]! l[h]!) = true then bsearch (symP lt l (mid + m)) n' (h + 1) j else bsearch (symP lt l (mid + m)) n' i h) := ⟨by
        rw [← HI.out, bsearch, if_pos hlt, hh, show symP lt l (mid + m) h = (!lt l[u]! l[h]!) from by unfold symP; rw [hu]]⟩
      have HQ := Aside0.mk (show j - (h + 1) ≤ gk - 1 ∧ h - i ≤ gk - 1 ∧ 0 < gk by have := hq.out; omega)
      have hll := HLN.out
      have hbb := HB.out
      obtain ⟨hx, hfx⟩ := cell_any HR.out h (by have := hij.out; have := HB.out; omega)
      obtain ⟨hy, hfy⟩ := cell_any HR.out u (by have := hij.out; have := HB.out; omega)
      have hxo : okE l[h]! := HOK.out _ (mem_at l h (by have := hij.out; have := HB.out; omega))
      have hyo : okE l[u]! := HOK.out _ (mem_at l u (by have := hij.out; have := HB.out; omega))
      obtain ⟨⟨xg, xc, xp⟩, hxe⟩ : ∃ z, l[h]! = z := ⟨_, rfl⟩
      obtain ⟨⟨yg, yc, yp⟩, hye⟩ : ∃ z, l[u]! = z := ⟨_, rfl⟩
      have HCC : Aside0 (∀ W', KepB W0 W' (fun k => k = g) → Calls Try.prog 52 #[.slice (some ⟨yg, 0, none⟩) 2 yc, .slice (some ⟨xg, 0, none⟩) 2 xc, .pointer (some ⟨Bc, 0, none⟩)] W' fun e W'' => ∃ v : Int, e = .returned (.int .i64 v) ∧ decide (v < 0) = lt l[u]! l[h]! ∧ Below W'.heap.size W' W'') := ⟨fun W' hk => by
        have h1 := HC.out W' hk _ _ hyo hxo
        rw [show encE l[h]! = .slice (some ⟨xg, 0, none⟩) 2 xc by rw [hxe]; rfl, show encE l[u]! = .slice (some ⟨yg, 0, none⟩) 2 yc by rw [hye]; rfl] at h1
        exact h1⟩
      have HTC : Aside0 (∀ w', kdE.R 35 w' base ok (.slice (some ⟨g, 0, none⟩) L c) l → w'.cell? ⟨g, h, none⟩ = some (.slice (some ⟨xg, 0, none⟩) 2 xc) ∧ w'.cell? ⟨g, u, none⟩ = some (.slice (some ⟨yg, 0, none⟩) 2 yc)) := ⟨fun w' hr => by
        have h1 := (cell_any hr h (by have := hij.out; have := HB.out; omega)).1
        have h2 := (cell_any hr u (by have := hij.out; have := HB.out; omega)).1
        rw [hxe] at h1
        rw [hye] at h2
        exact ⟨h1, h2⟩⟩
      obtain ⟨tx, ty⟩ := HTC.out _ HR.out
      have p0 : (0 : Int) ≤ (h : Int) := by omega
      have p1 : (h : Int) < (L : Int) := by have := HH.out; have := hij.out; omega
      have p2 : h < L := by omega
      have p3 : (0 : Int) ≤ (u : Int) := by omega
      have p4 : (u : Int) < (L : Int) := by omega
      have p5 : u < L := by omega
      have e8 : (h : Int) + 1 ≤ 100000 := by omega
      have hHf := half i j (by have := hij.out; have := HB.out; omega)
      rw [hh] at hHf
      have HHF := Aside0.mk hHf
      have HIJ := Aside0.mk (show s0 ≤ i ∧ i ≤ j ∧ j ≤ r0 ∧ j ≤ i + (n' + 1) from hij.out)
      clear hij hq HI hll hbb hx hfx hy hfy hxo hyo hxe hye hHf hh hlt hu huu hsr hij0
      have hw6 := w6_.out
      have hw6W := (i64_w _).trans hw6
      go_wp2
      rw [HHF.out]
      go_region_held3 (fun w' => w'.cell? ⟨g, h, none⟩ = some (.slice (some ⟨xg, 0, none⟩) 2 xc) ∧ w'.cell? ⟨g, u, none⟩ = some (.slice (some ⟨yg, 0, none⟩) 2 yc)) (first | exact ⟨tx, ty⟩ | exact HTC.out _ HR.out) ((go_at_call 52; refine (HCC.out _ ?hk_).mono ?_; (case hk_ => first | exact HK.out | exact KepB.drew HK.out); rintro e w5 ⟨v, rfl, hv, hb⟩; have HV := Aside0.mk hv; have hbw : Below wr.heap.size wr w5 := below_step (by repeat (first | (with_reducible first | exact (Below.refl wr.heap.size wr) | apply below_alloc | apply pw_below_drewN | apply below_drew1) | exact (Below.refl wr.heap.size wr)) : Below wr.heap.size wr _) hb; have n0_ := Aside0.mk (KepB.below HK.out hbw); have n1_ := Aside0.mk (Kd.R_below HR.out hbw); clear HK HR; have HK := n0_; have HR := n1_; clear n0_ n1_ hv hb hbw))
      cases hlx : lt l[u]! l[h]! with
      | false =>
        have cv : decide (v < 0) = false := HV.out.trans hlx
        have HNX := Aside0.mk (show bsearch (symP lt l (mid + m)) n' (h + 1) j = T by rw [HSQ.out, if_pos (by rw [hlx]; rfl)])
        clear hlx
        rw [cv]
        try simp only [Bool.not_true, Bool.not_false]
        clear cv
        go_wp2
        go_roundg (gk - 1)
        all_goals first
          | (have := HQ.out; omega)
          | exact ⟨h + 1, j, n', by go_num, rfl, ⟨by have := HIJ.out; have := HH.out; omega⟩, ⟨HQ.out.1⟩, HNX, HR, HK⟩
      | true =>
        have cv : decide (v < 0) = true := HV.out.trans hlx
        have HNX := Aside0.mk (show bsearch (symP lt l (mid + m)) n' i h = T by rw [HSQ.out, if_neg (by rw [hlx]; decide)])
        clear hlx
        rw [cv]
        try simp only [Bool.not_true, Bool.not_false]
        clear cv
        go_wp2
        go_roundg (gk - 1)
        all_goals first
          | (have := HQ.out; omega)
          | exact ⟨i, h, n', rfl, rfl, ⟨by have := HIJ.out; have := HH.out; omega⟩, ⟨HQ.out.2.1⟩, HNX, HR, HK⟩
    · obtain rfl : i = j := by have := hij.out; omega
      have hTi : i = T := by
        have h1 := bsearch_spec (symP lt l (mid + m)) n i i (Nat.le_refl _) (by omega)
        rw [HI.out] at h1
        omega
      subst hTi
      have c0 : decide ((i : Int) < (i : Int)) = false := decide_eq_false (by omega)
      have c00 : decide (i < i) = false := decide_eq_false (by omega)
      have hb_ := HB.out
      have htb := HTB.out
      have hmd := HMID.out
      have hqm := HQM.out
      have he := HEQ.out
      have HEE := Aside0.mk (show wrap64 ((q : Int) - (i : Int)) = (e : Int) by rw [w64 (by omega) (by omega)]; omega)
      have hsp : i ≤ m ∧ i ≤ mid ∧ e + i = mid + m ∧ 2 * mid ≤ a + b ∧ a + b ≤ 2 * mid + 1 ∧ m ≤ mid := by omega
      clear hij hq HI HT hqm he hmd
      by_cases hk : i < m
      · by_cases ha : a < i
        · by_cases he : e < b
          · have d1 : decide ((i : Int) < (m : Int)) = true := decide_eq_true (by omega)
            have d1n : decide (i < m) = true := decide_eq_true (by omega)
            have d2 : decide ((m : Int) < (e : Int)) = true := decide_eq_true (by omega)
            have d2n : decide (m < e) = true := decide_eq_true (by omega)
            have d3 : decide ((a : Int) < (i : Int)) = true := decide_eq_true (by omega)
            have d3n : decide (a < i) = true := decide_eq_true (by omega)
            have d4 : decide ((i : Int) < (mid : Int)) = true := decide_eq_true (by omega)
            have d4n : decide (i < mid) = true := decide_eq_true (by omega)
            have d5 : decide ((mid : Int) < (e : Int)) = true := decide_eq_true (by omega)
            have d5n : decide (mid < e) = true := decide_eq_true (by omega)
            have d6 : decide ((e : Int) < (b : Int)) = true := decide_eq_true (by omega)
            have d6n : decide (e < b) = true := decide_eq_true (by omega)
            have HL1 := Aside0.mk (show (rot l i m e).length = L by rw [(rot_perm l i m e (by omega) (by omega) (by rw [HLN.out]; omega)).length_eq]; exact HLN.out)
            have HO1 := Aside0.mk (show ∀ x ∈ rot l i m e, okE x from fun x hx => HOK.out x ((rot_perm l i m e (by omega) (by omega) (by rw [HLN.out]; omega)).mem_iff.1 hx))
            have HX1 := Aside0.mk (show i < m ∧ m < e ∧ e ≤ L by omega)
            have HX2 := Aside0.mk (show a < i ∧ i < mid ∧ mid ≤ L ∧ mid ≤ a + k by omega)
            have PP2 := symM_perm lt k (rot l i m e) a i mid (by omega) (by omega) (by rw [HL1.out]; omega)
            have HL2 := Aside0.mk (PP2.length_eq.trans HL1.out)
            have HO2 := Aside0.mk (show ∀ x ∈ symM lt k (rot l i m e) a i mid, okE x from fun x hx => HO1.out x (PP2.mem_iff.1 hx))
            clear PP2
            have HX3 := Aside0.mk (show mid < e ∧ e < b ∧ b ≤ L ∧ b ≤ mid + k by omega)
            have HE := Aside0.mk (show symA lt k (symA lt k (symR l i m e) a i mid) mid e b = symM lt k (symM lt k (rot l i m e) a i mid) mid e b by rw [show symR l i m e = rot l i m e from if_pos (by omega), show symA lt k (rot l i m e) a i mid = symM lt k (rot l i m e) a i mid from if_pos (by omega), show symA lt k (symM lt k (rot l i m e) a i mid) mid e b = symM lt k (symM lt k (rot l i m e) a i mid) mid e b from if_pos (by omega)])
            clear hb_ htb hsp
            have hwe := HEE.out
            have hweW := (i64_w _).trans hwe
            go_wp2_with (first | (go_at_call 72; refine (HIH.out w6 (symM lt k (rot l i m e) a i mid) mid e b HX3.out.1 HX3.out.2.1 HX3.out.2.2.1 HX3.out.2.2.2 HL2.out HO2.out HR.out HK.out).mono ?_; rintro ev w7 ⟨rfl, hr5, hk5⟩; have n0_ := Aside0.mk hr5; have n1_ := Aside0.mk hk5; clear hr5 hk5 HR HK; have HR := n0_; have HK := n1_; clear n0_ n1_) | (go_at_call 72; refine (HIH.out w5 (rot l i m e) a i mid HX2.out.1 HX2.out.2.1 HX2.out.2.2.1 HX2.out.2.2.2 HL1.out HO1.out HR.out HK.out).mono ?_; rintro ev w6 ⟨rfl, hr5, hk5⟩; have n0_ := Aside0.mk hr5; have n1_ := Aside0.mk hk5; clear hr5 hk5 HR HK; have HR := n0_; have HK := n1_; clear n0_ n1_) | (go_at_call 74; refine (rotate_calls g L c base ok W0 _ l _ i m e HX1.out.1 HX1.out.2.1 HX1.out.2.2 HB.out.2.2.2.1 HLN.out HR.out HK.out).mono ?_; rintro ev w5 ⟨rfl, hr5, hk5⟩; have n0_ := Aside0.mk hr5; have n1_ := Aside0.mk hk5; clear hr5 hk5 HR HK; have HR := n0_; have HK := n1_; clear n0_ n1_))
            go_end0
            exact ⟨rfl, by rw [HE.out]; exact HR.out, HK.out⟩
          · have d1 : decide ((i : Int) < (m : Int)) = true := decide_eq_true (by omega)
            have d1n : decide (i < m) = true := decide_eq_true (by omega)
            have d2 : decide ((m : Int) < (e : Int)) = true := decide_eq_true (by omega)
            have d2n : decide (m < e) = true := decide_eq_true (by omega)
            have d3 : decide ((a : Int) < (i : Int)) = true := decide_eq_true (by omega)
            have d3n : decide (a < i) = true := decide_eq_true (by omega)
            have d4 : decide ((i : Int) < (mid : Int)) = true := decide_eq_true (by omega)
            have d4n : decide (i < mid) = true := decide_eq_true (by omega)
            have d5 : decide ((mid : Int) < (e : Int)) = true := decide_eq_true (by omega)
            have d5n : decide (mid < e) = true := decide_eq_true (by omega)
            have d6 : decide ((e : Int) < (b : Int)) = false := decide_eq_false (by omega)
            have d6n : decide (e < b) = false := decide_eq_false (by omega)
            have HL1 := Aside0.mk (show (rot l i m e).length = L by rw [(rot_perm l i m e (by omega) (by omega) (by rw [HLN.out]; omega)).length_eq]; exact HLN.out)
            have HO1 := Aside0.mk (show ∀ x ∈ rot l i m e, okE x from fun x hx => HOK.out x ((rot_perm l i m e (by omega) (by omega) (by rw [HLN.out]; omega)).mem_iff.1 hx))
            have HX1 := Aside0.mk (show i < m ∧ m < e ∧ e ≤ L by omega)
            have HX2 := Aside0.mk (show a < i ∧ i < mid ∧ mid ≤ L ∧ mid ≤ a + k by omega)
            have PP2 := symM_perm lt k (rot l i m e) a i mid (by omega) (by omega) (by rw [HL1.out]; omega)
            have HL2 := Aside0.mk (PP2.length_eq.trans HL1.out)
            have HO2 := Aside0.mk (show ∀ x ∈ symM lt k (rot l i m e) a i mid, okE x from fun x hx => HO1.out x (PP2.mem_iff.1 hx))
            clear PP2
            have HE := Aside0.mk (show symA lt k (symA lt k (symR l i m e) a i mid) mid e b = symM lt k (rot l i m e) a i mid by rw [show symR l i m e = rot l i m e from if_pos (by omega), show symA lt k (rot l i m e) a i mid = symM lt k (rot l i m e) a i mid from if_pos (by omega), show symA lt k (symM lt k (rot l i m e) a i mid) mid e b = symM lt k (rot l i m e) a i mid from if_neg (by omega)])
            clear hb_ htb hsp
            have hwe := HEE.out
            have hweW := (i64_w _).trans hwe
            go_wp2_with (first | (go_at_call 72; refine (HIH.out w5 (rot l i m e) a i mid HX2.out.1 HX2.out.2.1 HX2.out.2.2.1 HX2.out.2.2.2 HL1.out HO1.out HR.out HK.out).mono ?_; rintro ev w6 ⟨rfl, hr5, hk5⟩; have n0_ := Aside0.mk hr5; have n1_ := Aside0.mk hk5; clear hr5 hk5 HR HK; have HR := n0_; have HK := n1_; clear n0_ n1_) | (go_at_call 74; refine (rotate_calls g L c base ok W0 _ l _ i m e HX1.out.1 HX1.out.2.1 HX1.out.2.2 HB.out.2.2.2.1 HLN.out HR.out HK.out).mono ?_; rintro ev w5 ⟨rfl, hr5, hk5⟩; have n0_ := Aside0.mk hr5; have n1_ := Aside0.mk hk5; clear hr5 hk5 HR HK; have HR := n0_; have HK := n1_; clear n0_ n1_))
            go_end0
            exact ⟨rfl, by rw [HE.out]; exact HR.out, HK.out⟩
        · by_cases he : e < b
          · have d1 : decide ((i : Int) < (m : Int)) = true := decide_eq_true (by omega)
            have d1n : decide (i < m) = true := decide_eq_true (by omega)
            have d2 : decide ((m : Int) < (e : Int)) = true := decide_eq_true (by omega)
            have d2n : decide (m < e) = true := decide_eq_true (by omega)
            have d3 : decide ((a : Int) < (i : Int)) = false := decide_eq_false (by omega)
            have d3n : decide (a < i) = false := decide_eq_false (by omega)
            have d5 : decide ((mid : Int) < (e : Int)) = true := decide_eq_true (by omega)
            have d5n : decide (mid < e) = true := decide_eq_true (by omega)
            have d6 : decide ((e : Int) < (b : Int)) = true := decide_eq_true (by omega)
            have d6n : decide (e < b) = true := decide_eq_true (by omega)
            have HL1 := Aside0.mk (show (rot l i m e).length = L by rw [(rot_perm l i m e (by omega) (by omega) (by rw [HLN.out]; omega)).length_eq]; exact HLN.out)
            have HO1 := Aside0.mk (show ∀ x ∈ rot l i m e, okE x from fun x hx => HOK.out x ((rot_perm l i m e (by omega) (by omega) (by rw [HLN.out]; omega)).mem_iff.1 hx))
            have HX1 := Aside0.mk (show i < m ∧ m < e ∧ e ≤ L by omega)
            have HX3 := Aside0.mk (show mid < e ∧ e < b ∧ b ≤ L ∧ b ≤ mid + k by omega)
            have HE := Aside0.mk (show symA lt k (symA lt k (symR l i m e) a i mid) mid e b = symM lt k (rot l i m e) mid e b by rw [show symR l i m e = rot l i m e from if_pos (by omega), show symA lt k (rot l i m e) a i mid = rot l i m e from if_neg (by omega), show symA lt k (rot l i m e) mid e b = symM lt k (rot l i m e) mid e b from if_pos (by omega)])
            clear hb_ htb hsp
            have hwe := HEE.out
            have hweW := (i64_w _).trans hwe
            go_wp2_with (first | (go_at_call 72; refine (HIH.out w5 (rot l i m e) mid e b HX3.out.1 HX3.out.2.1 HX3.out.2.2.1 HX3.out.2.2.2 HL1.out HO1.out HR.out HK.out).mono ?_; rintro ev w6 ⟨rfl, hr5, hk5⟩; have n0_ := Aside0.mk hr5; have n1_ := Aside0.mk hk5; clear hr5 hk5 HR HK; have HR := n0_; have HK := n1_; clear n0_ n1_) | (go_at_call 74; refine (rotate_calls g L c base ok W0 _ l _ i m e HX1.out.1 HX1.out.2.1 HX1.out.2.2 HB.out.2.2.2.1 HLN.out HR.out HK.out).mono ?_; rintro ev w5 ⟨rfl, hr5, hk5⟩; have n0_ := Aside0.mk hr5; have n1_ := Aside0.mk hk5; clear hr5 hk5 HR HK; have HR := n0_; have HK := n1_; clear n0_ n1_))
            go_end0
            exact ⟨rfl, by rw [HE.out]; exact HR.out, HK.out⟩
          · have d1 : decide ((i : Int) < (m : Int)) = true := decide_eq_true (by omega)
            have d1n : decide (i < m) = true := decide_eq_true (by omega)
            have d2 : decide ((m : Int) < (e : Int)) = true := decide_eq_true (by omega)
            have d2n : decide (m < e) = true := decide_eq_true (by omega)
            have d3 : decide ((a : Int) < (i : Int)) = false := decide_eq_false (by omega)
            have d3n : decide (a < i) = false := decide_eq_false (by omega)
            have d5 : decide ((mid : Int) < (e : Int)) = true := decide_eq_true (by omega)
            have d5n : decide (mid < e) = true := decide_eq_true (by omega)
            have d6 : decide ((e : Int) < (b : Int)) = false := decide_eq_false (by omega)
            have d6n : decide (e < b) = false := decide_eq_false (by omega)
            have HL1 := Aside0.mk (show (rot l i m e).length = L by rw [(rot_perm l i m e (by omega) (by omega) (by rw [HLN.out]; omega)).length_eq]; exact HLN.out)
            have HO1 := Aside0.mk (show ∀ x ∈ rot l i m e, okE x from fun x hx => HOK.out x ((rot_perm l i m e (by omega) (by omega) (by rw [HLN.out]; omega)).mem_iff.1 hx))
            have HX1 := Aside0.mk (show i < m ∧ m < e ∧ e ≤ L by omega)
            have HE := Aside0.mk (show symA lt k (symA lt k (symR l i m e) a i mid) mid e b = rot l i m e by rw [show symR l i m e = rot l i m e from if_pos (by omega), show symA lt k (rot l i m e) a i mid = rot l i m e from if_neg (by omega), show symA lt k (rot l i m e) mid e b = rot l i m e from if_neg (by omega)])
            clear hb_ htb hsp
            have hwe := HEE.out
            have hweW := (i64_w _).trans hwe
            go_wp2_with (first | (go_at_call 74; refine (rotate_calls g L c base ok W0 _ l _ i m e HX1.out.1 HX1.out.2.1 HX1.out.2.2 HB.out.2.2.2.1 HLN.out HR.out HK.out).mono ?_; rintro ev w5 ⟨rfl, hr5, hk5⟩; have n0_ := Aside0.mk hr5; have n1_ := Aside0.mk hk5; clear hr5 hk5 HR HK; have HR := n0_; have HK := n1_; clear n0_ n1_))
            go_end0
            exact ⟨rfl, by rw [HE.out]; exact HR.out, HK.out⟩
      · by_cases hs : m < mid
        · have d1 : decide ((i : Int) < (m : Int)) = false := decide_eq_false (by omega)
          have d1n : decide (i < m) = false := decide_eq_false (by omega)
          have d3 : decide ((a : Int) < (i : Int)) = true := decide_eq_true (by omega)
          have d3n : decide (a < i) = true := decide_eq_true (by omega)
          have d4 : decide ((i : Int) < (mid : Int)) = true := decide_eq_true (by omega)
          have d4n : decide (i < mid) = true := decide_eq_true (by omega)
          have d5 : decide ((mid : Int) < (e : Int)) = false := decide_eq_false (by omega)
          have d5n : decide (mid < e) = false := decide_eq_false (by omega)
          have HX2 := Aside0.mk (show a < i ∧ i < mid ∧ mid ≤ L ∧ mid ≤ a + k by omega)
          have PP2 := symM_perm lt k (l) a i mid (by omega) (by omega) (by rw [HLN.out]; omega)
          have HL2 := Aside0.mk (PP2.length_eq.trans HLN.out)
          have HO2 := Aside0.mk (show ∀ x ∈ symM lt k (l) a i mid, okE x from fun x hx => HOK.out x (PP2.mem_iff.1 hx))
          clear PP2
          have HE := Aside0.mk (show symA lt k (symA lt k (symR l i m e) a i mid) mid e b = symM lt k (l) a i mid by rw [show symR l i m e = l from if_neg (by omega), show symA lt k (l) a i mid = symM lt k (l) a i mid from if_pos (by omega), show symA lt k (symM lt k (l) a i mid) mid e b = symM lt k (l) a i mid from if_neg (by omega)])
          clear hb_ htb hsp
          have hwe := HEE.out
          have hweW := (i64_w _).trans hwe
          go_wp2_with (first | (go_at_call 72; refine (HIH.out wr (l) a i mid HX2.out.1 HX2.out.2.1 HX2.out.2.2.1 HX2.out.2.2.2 HLN.out HOK.out HR.out HK.out).mono ?_; rintro ev w6 ⟨rfl, hr5, hk5⟩; have n0_ := Aside0.mk hr5; have n1_ := Aside0.mk hk5; clear hr5 hk5 HR HK; have HR := n0_; have HK := n1_; clear n0_ n1_))
          go_end0
          exact ⟨rfl, by rw [HE.out]; exact HR.out, HK.out⟩
        · have d1 : decide ((i : Int) < (m : Int)) = false := decide_eq_false (by omega)
          have d1n : decide (i < m) = false := decide_eq_false (by omega)
          have d3 : decide ((a : Int) < (i : Int)) = true := decide_eq_true (by omega)
          have d3n : decide (a < i) = true := decide_eq_true (by omega)
          have d4 : decide ((i : Int) < (mid : Int)) = false := decide_eq_false (by omega)
          have d4n : decide (i < mid) = false := decide_eq_false (by omega)
          have d5 : decide ((mid : Int) < (e : Int)) = false := decide_eq_false (by omega)
          have d5n : decide (mid < e) = false := decide_eq_false (by omega)
          have HE := Aside0.mk (show symA lt k (symA lt k (symR l i m e) a i mid) mid e b = l by rw [show symR l i m e = l from if_neg (by omega), show symA lt k (l) a i mid = l from if_neg (by omega), show symA lt k (l) mid e b = l from if_neg (by omega)])
          clear hb_ htb hsp
          have hwe := HEE.out
          have hweW := (i64_w _).trans hwe
          go_wp2
          go_end0
          exact ⟨rfl, by rw [HE.out]; exact HR.out, HK.out⟩
end Go.Proofs.Ythlnpbdjblocfaa.P

namespace Go.Proofs.Ythlnpbdjblocfaa.P
open Go.RowKit Go.Proofs.Ythlnpbdjblocfaa.Srt Go.Proofs.YthlnpbdjblocfaaW.PrintWords Go.Proofs.YthlnpbdjblocfaaW.PrintLast Go.Proofs.YthlnpbdjblocfaaW.PrintMore Go.Proofs.Ythlnpbdjblocfaa.Pure
set_option linter.unusedVariables false
set_option linter.unusedSimpArgs false
theorem symMerge_calls (g L c base : Nat) (ok : Nat → Prop) (Bc : Nat) (okE : El → Prop) (lt : El → El → Bool) (W0 : World) (hL : L ≤ 1000) (hC : CmpOk g #[.pointer (some ⟨Bc, 0, none⟩)] okE lt W0) : ∀ k : Nat, SymOk g L c base ok Bc okE lt W0 k := by
  intro k
  induction k with
  | zero => intro W l a m b h1 h2 h3 h4; omega
  | succ k ih =>
    intro W l a m b h1 h2 h3 h4 hlen hok hr hk
    by_cases c1 : m = a + 1
    · subst c1
      rw [symM, if_pos (by omega)]
      exact symFirst_calls g L c base ok Bc okE lt W0 W l a b hL h2 h3 hlen hok hC hr hk
    by_cases c2 : b = m + 1
    · subst c2
      rw [symM, if_neg (by omega), if_pos (by omega)]
      exact symLast_calls g L c base ok Bc okE lt W0 W l a m hL (by omega) h3 hlen hok hC hr hk
    by_cases c3 : (a + b) / 2 < m
    · exact symGenA g L c base ok Bc okE lt W0 hL hC k ih W l a m b _ (by omega) (by omega) h3 h4 rfl c3 hlen hok hr hk
    · exact symGenB g L c base ok Bc okE lt W0 hL hC k ih W l a m b _ (by omega) (by omega) h3 h4 rfl c3 hlen hok hr hk
end Go.Proofs.Ythlnpbdjblocfaa.P

namespace Go.Proofs.Ythlnpbdjblocfaa.P
open Go.RowKit Go.Proofs.Ythlnpbdjblocfaa.Srt Go.Proofs.YthlnpbdjblocfaaW.PrintWords Go.Proofs.YthlnpbdjblocfaaW.PrintLast Go.Proofs.YthlnpbdjblocfaaW.PrintMore Go.Proofs.Ythlnpbdjblocfaa.Pure
set_option linter.unusedVariables false
set_option linter.unusedSimpArgs false
theorem insFold_perm (lt : El → El → Bool) : ∀ (B A : List El), (B.foldl (insOne lt) A).Perm (A ++ B)
  | [], A => by simp
  | x :: B, A => by
    rw [List.foldl_cons]
    refine (insFold_perm lt B (insOne lt A x)).trans ?_
    have h1 : (insOne lt A x).Perm (A ++ [x]) := (insOne_perm lt A x).trans (by
      rw [← List.singleton_append]
      exact List.perm_append_comm)
    refine (List.Perm.append_right B h1).trans ?_
    rw [List.append_assoc]
    rfl
theorem insAll_perm (lt : El → El → Bool) (B : List El) : (insAll lt B).Perm B := by
  have := insFold_perm lt B []
  rw [List.nil_append] at this
  exact this
/-- One block of the row, sorted by itself. -/
def insAt (lt : El → El → Bool) (l : List El) (a b : Nat) : List El := l.take a ++ (insAll lt ((l.take b).drop a) ++ l.drop b)
theorem three (l : List El) (a b : Nat) (hab : a ≤ b) : l.take a ++ ((l.take b).drop a ++ l.drop b) = l := by
  have e : l.take a = (l.take b).take a := by rw [List.take_take, Nat.min_eq_left hab]
  rw [e, ← List.append_assoc, List.take_append_drop, List.take_append_drop]
theorem insAt_perm (lt : El → El → Bool) (l : List El) (a b : Nat) (hab : a ≤ b) : (insAt lt l a b).Perm l := by
  have h := List.Perm.append_left (l.take a) (List.Perm.append_right (l.drop b) (insAll_perm lt ((l.take b).drop a)))
  rw [three l a b hab] at h
  exact h
theorem ins_at (g L c base : Nat) (ok : Nat → Prop) (Bc : Nat) (okE : El → Prop) (lt : El → El → Bool) (W0 W : World) (l : List El) (a b : Nat) (x y : Int) (hx : x = (a : Int)) (hy : y = (b : Int)) (hab : a ≤ b) (hb : b ≤ L) (hL : L ≤ 1000) (hlen : l.length = L) (hok : ∀ x ∈ l, okE x) (hC : CmpOk g #[.pointer (some ⟨Bc, 0, none⟩)] okE lt W0)
    (hr : kdE.R 35 W base ok (.slice (some ⟨g, 0, none⟩) L c) l) (hk : KepB W0 W (fun k => k = g)) :
    Calls Try.prog 71 #[.slice (some ⟨g, 0, none⟩) L c, .int .i64 x, .int .i64 y, .func (.func 52) #[] #[.pointer (some ⟨Bc, 0, none⟩)]] W fun e W' => e = .returned (.tuple #[]) ∧ kdE.R 35 W' base ok (.slice (some ⟨g, 0, none⟩) L c) (insAt lt l a b) ∧ KepB W0 W' (fun k => k = g) := by
  have e1 : (l.take a).length = a := by rw [List.length_take]; omega
  have e2 : ((l.take b).drop a).length = b - a := by rw [List.length_drop, List.length_take]; omega
  have e3 : (l.drop b).length = L - b := by rw [List.length_drop]; omega
  have h := insertion_calls g L c base ok Bc okE lt W0 W (l.take a) ((l.take b).drop a) (l.drop b) hL (by omega) (fun z hz => hok z (List.mem_of_mem_take (List.mem_of_mem_drop hz))) hC (by rw [three l a b hab]; exact hr) hk
  rw [e1, e2, show a + (b - a) = b by omega] at h
  subst hx
  subst hy
  exact h
theorem stab_small (lt : El → El → Bool) (l : List El) (L : Nat) (hlen : l.length = L) (h : L < 20) : stab lt l = insAt lt l 0 L := by
  unfold stab insAt
  rw [if_neg (by omega), if_neg (by omega), List.take_zero, List.nil_append, List.drop_zero, List.drop_of_length_le (by omega), List.append_nil, List.take_of_length_le (by omega)]
theorem insAt_two (lt : El → El → Bool) (l : List El) (L : Nat) (hlen : l.length = L) (h : 20 ≤ L) : insAt lt (insAt lt l 0 20) 20 L = insAll lt (l.take 20) ++ insAll lt (l.drop 20) := by
  have e0 : insAt lt l 0 20 = insAll lt (l.take 20) ++ l.drop 20 := by
    unfold insAt
    rw [List.take_zero, List.nil_append, List.drop_zero]
  have e1 : (insAll lt (l.take 20)).length = 20 := by rw [(insAll_perm lt _).length_eq, List.length_take]; omega
  have e2 : (insAll lt (l.take 20) ++ l.drop 20).length = L := by rw [List.length_append, e1, List.length_drop]; omega
  rw [e0]
  obtain ⟨X, hX⟩ : ∃ X, insAll lt (l.take 20) = X := ⟨_, rfl⟩
  rw [hX] at e1 e2
  rw [hX]
  unfold insAt
  rw [List.take_left' e1, List.take_of_length_le (Nat.le_of_eq e2), List.drop_left' e1, List.drop_of_length_le (Nat.le_of_eq e2), List.append_nil]
theorem stab_large (lt : El → El → Bool) (l : List El) (L : Nat) (hlen : l.length = L) (h : 20 < L) : stab lt l = symM lt 50 (insAt lt (insAt lt l 0 20) 20 L) 0 20 L := by
  rw [insAt_two lt l L hlen (by omega)]
  unfold stab
  rw [if_pos (by omega), hlen]
theorem stab_twenty (lt : El → El → Bool) (l : List El) (hlen : l.length = 20) : stab lt l = insAt lt (insAt lt l 0 20) 20 20 := by
  rw [insAt_two lt l 20 hlen (by omega)]
  unfold stab
  rw [if_neg (by omega), if_pos hlen, List.take_of_length_le (by omega), List.drop_of_length_le (by omega)]
  show insAll lt l = insAll lt l ++ []
  rw [List.append_nil]
set_option maxHeartbeats 8000000 in
set_option maxRecDepth 100000 in
theorem stable_small (g L c base : Nat) (ok : Nat → Prop) (Bc : Nat) (okE : El → Prop) (lt : El → El → Bool) (W0 W : World) (l : List El) (h20 : L < 20) (hlen : l.length = L) (hok : ∀ x ∈ l, okE x) (hC : CmpOk g #[.pointer (some ⟨Bc, 0, none⟩)] okE lt W0)
    (hr : kdE.R 35 W base ok (.slice (some ⟨g, 0, none⟩) L c) l) (hk : KepB W0 W (fun k => k = g)) :
    Calls Try.prog 63 #[.slice (some ⟨g, 0, none⟩) L c, .int .i64 (L : Int), .func (.func 52) #[] #[.pointer (some ⟨Bc, 0, none⟩)]] W fun e W' => e = .returned (.tuple #[]) ∧ kdE.R 35 W' base ok (.slice (some ⟨g, 0, none⟩) L c) (stab lt l) ∧ KepB W0 W' (fun k => k = g) := by
  rw [stab_small lt l L hlen h20]
  have HR := Aside0.mk hr
  have HK := Aside0.mk hk
  have HC := Aside0.mk hC
  have HOK := Aside0.mk hok
  have HLN := Aside0.mk hlen
  have HL := Aside0.mk (show 0 ≤ L ∧ L ≤ 1000 by omega)
  have c0 : decide ((20 : Int) ≤ (L : Int)) = false := decide_eq_false (by omega)
  have c00 : decide (20 ≤ L) = false := decide_eq_false (by omega)
  have c1 : decide ((20 : Int) < (L : Int)) = false := decide_eq_false (by omega)
  have c10 : decide (20 < L) = false := decide_eq_false (by omega)
  clear hr hk hC hok hlen h20
  go_enter Try.func63, Try.ntmps63
  go_wp2
  go_loopg [7, 8] 1 (fun kq v7 v8 w' => v7 = .int .i64 0 ∧ v8 = .int .i64 20 ∧ Aside0 (kdE.R 35 w' base ok (.slice (some ⟨g, 0, none⟩) L c) l) ∧ Aside0 (KepB W0 w' (fun k => k = g)))
  case atStart => exact ⟨rfl, rfl, HR, HK⟩
  case round =>
    clear HR HK
    obtain ⟨rfl, rfl, HR, HK⟩ := hrel
    go_wp2_with (first | (go_at_call 71; refine (ins_at g L c base ok Bc okE lt W0 wr l 0 L 0 (L : Int) rfl rfl HL.out.1 (Nat.le_refl _) HL.out.2 HLN.out HOK.out HC.out HR.out HK.out).mono ?_; rintro ev w5 ⟨rfl, hr5, hk5⟩; have n0_ := Aside0.mk hr5; have n1_ := Aside0.mk hk5; clear hr5 hk5 HR HK; have HR := n0_; have HK := n1_; clear n0_ n1_))
    go_loopg [6] 1 (fun kq v6 w' => v6 = .int .i64 20 ∧ Aside0 (kdE.R 35 w' base ok (.slice (some ⟨g, 0, none⟩) L c) (insAt lt l 0 L)) ∧ Aside0 (KepB W0 w' (fun k => k = g)))
    case atStart => exact ⟨rfl, HR, HK⟩
    case round =>
      clear HR HK
      obtain ⟨rfl, HR, HK⟩ := hrel
      go_wp2
      go_end0
      exact ⟨rfl, HR.out, HK.out⟩
set_option maxHeartbeats 8000000 in
set_option maxRecDepth 100000 in
theorem stable_large (g L c base : Nat) (ok : Nat → Prop) (Bc : Nat) (okE : El → Prop) (lt : El → El → Bool) (W0 W : World) (l : List El) (h20 : 20 ≤ L) (h39 : L ≤ 39) (hlen : l.length = L) (hok : ∀ x ∈ l, okE x) (hC : CmpOk g #[.pointer (some ⟨Bc, 0, none⟩)] okE lt W0)
    (hr : kdE.R 35 W base ok (.slice (some ⟨g, 0, none⟩) L c) l) (hk : KepB W0 W (fun k => k = g)) :
    Calls Try.prog 63 #[.slice (some ⟨g, 0, none⟩) L c, .int .i64 (L : Int), .func (.func 52) #[] #[.pointer (some ⟨Bc, 0, none⟩)]] W fun e W' => e = .returned (.tuple #[]) ∧ kdE.R 35 W' base ok (.slice (some ⟨g, 0, none⟩) L c) (stab lt l) ∧ KepB W0 W' (fun k => k = g) := by
  have HSM := Aside0.mk (symMerge_calls g L c base ok Bc okE lt W0 (by omega) hC 50)
  have p1 := insAt_perm lt l 0 20 (by omega)
  have p2 := (insAt_perm lt (insAt lt l 0 20) 20 L (by omega)).trans p1
  obtain ⟨l1, hl1⟩ : ∃ z, insAt lt l 0 20 = z := ⟨_, rfl⟩
  rw [hl1] at p1 p2
  obtain ⟨l2, hl2⟩ : ∃ z, insAt lt l1 20 L = z := ⟨_, rfl⟩
  rw [hl2] at p2
  obtain ⟨F, hF⟩ : ∃ z, stab lt l = z := ⟨_, rfl⟩
  rw [hF]
  have HF := Aside0.mk (show (20 < L → symM lt 50 l2 0 20 L = F) ∧ (¬ 20 < L → l2 = F) from ⟨fun h => by rw [← hF, stab_large lt l L hlen h, hl1, hl2], fun h => by
    have h2 : L = 20 := by omega
    subst h2
    rw [← hF, stab_twenty lt l hlen, hl1, hl2]⟩)
  have HI1 := Aside0.mk hl1
  have HI2 := Aside0.mk hl2
  have HR := Aside0.mk hr
  have HK := Aside0.mk hk
  have HC := Aside0.mk hC
  have HOK := Aside0.mk hok
  have HLN := Aside0.mk hlen
  have HOK1 := Aside0.mk (show ∀ x ∈ l1, okE x from fun x hx => hok x (p1.mem_iff.1 hx))
  have HLN1 := Aside0.mk (p1.length_eq.trans hlen)
  have HOK2 := Aside0.mk (show ∀ x ∈ l2, okE x from fun x hx => hok x (p2.mem_iff.1 hx))
  have HLN2 := Aside0.mk (p2.length_eq.trans hlen)
  have HL := Aside0.mk (show 20 ≤ L ∧ L ≤ 39 ∧ L ≤ 1000 ∧ L ≤ 0 + 50 by omega)
  have c0 : decide ((20 : Int) ≤ (L : Int)) = true := decide_eq_true (by omega)
  have c00 : decide (20 ≤ L) = true := decide_eq_true (by omega)
  have c2 : decide ((40 : Int) ≤ (L : Int)) = false := decide_eq_false (by omega)
  have c20 : decide (40 ≤ L) = false := decide_eq_false (by omega)
  have c3 : decide ((40 : Int) < (L : Int)) = false := decide_eq_false (by omega)
  have c30 : decide (40 < L) = false := decide_eq_false (by omega)
  clear hr hk hC hok hlen h20 h39 p1 p2 hl1 hl2 hF
  go_enter Try.func63, Try.ntmps63
  go_wp2
  go_loopg [7, 8] 3 (fun kq v7 v8 w' => (v7 = .int .i64 0 ∧ v8 = .int .i64 20 ∧ Aside0 (2 ≤ kq) ∧ Aside0 (kdE.R 35 w' base ok (.slice (some ⟨g, 0, none⟩) L c) l) ∧ Aside0 (KepB W0 w' (fun k => k = g))) ∨ (v7 = .int .i64 20 ∧ v8 = .int .i64 40 ∧ Aside0 (kdE.R 35 w' base ok (.slice (some ⟨g, 0, none⟩) L c) l1) ∧ Aside0 (KepB W0 w' (fun k => k = g))))
  case atStart => exact .inl ⟨rfl, rfl, ⟨by omega⟩, HR, HK⟩
  case round =>
    clear HR HK
    rcases hrel with ⟨rfl, rfl, hq, HR, HK⟩ | ⟨rfl, rfl, HR, HK⟩
    · go_wp2_with (first | (go_at_call 71; refine (ins_at g L c base ok Bc okE lt W0 wr l 0 20 0 20 rfl rfl (Nat.zero_le _) HL.out.1 HL.out.2.2.1 HLN.out HOK.out HC.out HR.out HK.out).mono ?_; rintro ev w5 ⟨rfl, hr5, hk5⟩; rw [HI1.out] at hr5; have n0_ := Aside0.mk hr5; have n1_ := Aside0.mk hk5; clear hr5 hk5 HR HK; have HR := n0_; have HK := n1_; clear n0_ n1_))
      go_roundg (gk - 1)
      all_goals first
        | (have := hq.out; omega)
        | exact .inr ⟨rfl, rfl, HR, HK⟩
    · go_wp2_with (first | (go_at_call 71; refine (ins_at g L c base ok Bc okE lt W0 wr l1 20 L 20 (L : Int) rfl rfl HL.out.1 (Nat.le_refl _) HL.out.2.2.1 HLN1.out HOK1.out HC.out HR.out HK.out).mono ?_; rintro ev w5 ⟨rfl, hr5, hk5⟩; rw [HI2.out] at hr5; have n0_ := Aside0.mk hr5; have n1_ := Aside0.mk hk5; clear hr5 hk5 HR HK; have HR := n0_; have HK := n1_; clear n0_ n1_))
      go_loopg [6] 3 (fun kq v6 w' => (v6 = .int .i64 20 ∧ Aside0 (2 ≤ kq) ∧ Aside0 (kdE.R 35 w' base ok (.slice (some ⟨g, 0, none⟩) L c) l2) ∧ Aside0 (KepB W0 w' (fun k => k = g))) ∨ (v6 = .int .i64 40 ∧ Aside0 (kdE.R 35 w' base ok (.slice (some ⟨g, 0, none⟩) L c) F) ∧ Aside0 (KepB W0 w' (fun k => k = g))))
      case atStart => exact .inl ⟨rfl, ⟨by omega⟩, HR, HK⟩
      case round =>
        clear HR HK
        rcases hrel with ⟨rfl, hq, HR, HK⟩ | ⟨rfl, HR, HK⟩
        · by_cases hlt : 20 < L
          · have c1 : decide ((20 : Int) < (L : Int)) = true := decide_eq_true (by omega)
            have c10 : decide (20 < L) = true := decide_eq_true hlt
            have HFF := Aside0.mk (HF.out.1 hlt)
            have HLT := Aside0.mk hlt
            clear hlt
            go_wp2
            go_loopg [7, 8] 1 (fun kq v7 v8 w' => v7 = .int .i64 0 ∧ v8 = .int .i64 40 ∧ Aside0 (kdE.R 35 w' base ok (.slice (some ⟨g, 0, none⟩) L c) l2) ∧ Aside0 (KepB W0 w' (fun k => k = g)))
            case atStart => exact ⟨rfl, rfl, HR, HK⟩
            case round =>
              clear HR HK
              obtain ⟨rfl, rfl, HR, HK⟩ := hrel
              go_wp2_with (first | (go_at_call 72; refine (HSM.out wr l2 0 20 L (by decide) HLT.out (Nat.le_refl _) HL.out.2.2.2 HLN2.out HOK2.out HR.out HK.out).mono ?_; rintro ev w5 ⟨rfl, hr5, hk5⟩; rw [HFF.out] at hr5; have n0_ := Aside0.mk hr5; have n1_ := Aside0.mk hk5; clear hr5 hk5 HR HK; have HR := n0_; have HK := n1_; clear n0_ n1_))
              go_roundg 0
              all_goals first
                | (have := hq.out; omega)
                | exact .inr ⟨rfl, HR, HK⟩
          · have c1 : decide ((20 : Int) < (L : Int)) = false := decide_eq_false (by omega)
            have c10 : decide (20 < L) = false := decide_eq_false (by omega)
            have HFF := Aside0.mk (HF.out.2 hlt)
            clear hlt
            go_wp2
            go_end0
            exact ⟨rfl, by rw [← HFF.out]; exact HR.out, HK.out⟩
        · go_wp2
          go_end0
          exact ⟨rfl, HR.out, HK.out⟩
theorem stable_calls (g L c base : Nat) (ok : Nat → Prop) (Bc : Nat) (okE : El → Prop) (lt : El → El → Bool) (W0 W : World) (l : List El) (h39 : L ≤ 39) (hlen : l.length = L) (hok : ∀ x ∈ l, okE x) (hC : CmpOk g #[.pointer (some ⟨Bc, 0, none⟩)] okE lt W0)
    (hr : kdE.R 35 W base ok (.slice (some ⟨g, 0, none⟩) L c) l) (hk : KepB W0 W (fun k => k = g)) :
    Calls Try.prog 63 #[.slice (some ⟨g, 0, none⟩) L c, .int .i64 (L : Int), .func (.func 52) #[] #[.pointer (some ⟨Bc, 0, none⟩)]] W fun e W' => e = .returned (.tuple #[]) ∧ kdE.R 35 W' base ok (.slice (some ⟨g, 0, none⟩) L c) (stab lt l) ∧ KepB W0 W' (fun k => k = g) := by
  by_cases h20 : L < 20
  · exact stable_small g L c base ok Bc okE lt W0 W l h20 hlen hok hC hr hk
  · exact stable_large g L c base ok Bc okE lt W0 W l (by omega) h39 hlen hok hC hr hk
set_option maxRecDepth 100000 in
theorem sortStable_calls (g L c base : Nat) (ok : Nat → Prop) (Bc : Nat) (okE : El → Prop) (lt : El → El → Bool) (W0 W : World) (l : List El) (h39 : L ≤ 39) (hlen : l.length = L) (hok : ∀ x ∈ l, okE x) (hC : CmpOk g #[.pointer (some ⟨Bc, 0, none⟩)] okE lt W0)
    (hr : kdE.R 35 W base ok (.slice (some ⟨g, 0, none⟩) L c) l) (hk : KepB W0 W (fun k => k = g)) :
    Calls Try.prog 51 #[.slice (some ⟨g, 0, none⟩) L c, .func (.func 52) #[] #[.pointer (some ⟨Bc, 0, none⟩)]] W fun e W' => e = .returned (.tuple #[]) ∧ kdE.R 35 W' base ok (.slice (some ⟨g, 0, none⟩) L c) (stab lt l) ∧ KepB W0 W' (fun k => k = g) := by
  have H := Aside0.mk (stable_calls g L c base ok Bc okE lt W0 W l h39 hlen hok hC hr hk)
  clear hr hk hC hok
  go_enter Try.func51, Try.ntmps51
  go_wp2_with (first | (go_at_call 63; refine H.out.mono ?_; rintro ev w5 ⟨rfl, hr5, hk5⟩; have HR := Aside0.mk hr5; have HK := Aside0.mk hk5; clear hr5 hk5))
  go_end0
  exact ⟨rfl, HR.out, HK.out⟩
end Go.Proofs.Ythlnpbdjblocfaa.P
