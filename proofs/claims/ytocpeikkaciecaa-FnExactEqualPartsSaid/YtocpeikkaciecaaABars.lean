/- Lists of bars: compared with themselves, marked and held. Plain facts, no memory. Condition: a list shorter than any machine's memory. -/
import Derived.Test.YtocpeikkaciecaaAPure1
import Derived.Test.YtocpeikkaciecaaPx29
import Derived.Test.YtocpeikkaciecaaPx30
import Derived.Test.YtocpeikkaciecaaPx31
namespace Go.Proofs.Ytocpeikkaciecaa.Pure
open Go.RowKit Go.Proofs.Ytocpeikkaciecaa.P Go.Proofs.YtocpeikkaciecaaW.PrintWords Go.Proofs.YtocpeikkaciecaaW.PrintLast

theorem eqBar_refl (a b : Int) : laws_eqBar.f a b a b = some true := by simp [laws_eqBar.f]

theorem eqBarS_l0 (l : List S26) (hn : l.length ≤ 1000000000000) : ∀ (d i : Nat), i + d = l.length → ∀ k, d < k → laws_eqBarS.l0 k l l (i : Int) = some true := by
  intro d
  induction d with
  | zero =>
    intro i hi k hk
    obtain ⟨m, rfl⟩ : ∃ m, k = m + 1 := ⟨k - 1, by omega⟩
    simp only [laws_eqBarS.l0]
    rw [if_neg (by omega)]
  | succ d ih =>
    intro i hi k hk
    obtain ⟨m, rfl⟩ : ∃ m, k = m + 1 := ⟨k - 1, by omega⟩
    simp only [laws_eqBarS.l0]
    rw [if_pos (by omega), if_pos (by omega), if_pos (by omega), eqBar_refl]
    simp only [Option.bind_some, if_true]
    rw [w64 (by omega) (by omega)]
    exact ih (i + 1) (by omega) m (by omega)
theorem eqBarS_refl (l : List S26) (hn : l.length ≤ 1000000000000) : Ev (fun k => laws_eqBarS.f k l l) true := by
  refine ⟨l.length + 1, fun k hk => ?_⟩
  simp only [laws_eqBarS.f, if_true]
  exact eqBarS_l0 l hn l.length 0 (by omega) k (by omega)

theorem rdB_set (l : List S26) (i : Nat) (v : S26) (h : i < l.length) : rd_T26 (l.set i v) (i : Int) = v := by
  unfold rd_T26
  simp [h]
theorem rdB_get (l : List S26) (i : Nat) (v : S26) (h : l[i]? = some v) : rd_T26 l (i : Int) = v := by
  unfold rd_T26
  simp [h]

theorem markBarS_l0 : ∀ (d i : Nat) (l : List S26) (c : Nat), l.length = i + d → l.length ≤ 1000000000000 → c + 2 * d ≤ 4000000000000 → ∀ k, d < k →
    ∃ l', laws_markBarS.l0 k l (c : Int) (i : Int) = some (((c + 2 * d : Nat) : Int), l') ∧ l'.length = l.length ∧ (∀ j, j < i → l'[j]? = l[j]?) ∧
      ∀ j, j < d → l'[i + j]? = some ⟨((c + 2 * j : Nat) : Int), ((c + 2 * j + 1 : Nat) : Int)⟩ := by
  intro d
  induction d with
  | zero =>
    intro i l c hl hn hc k hk
    obtain ⟨m, rfl⟩ : ∃ m, k = m + 1 := ⟨k - 1, by omega⟩
    refine ⟨l, ?_, rfl, fun _ _ => rfl, fun j hj => by omega⟩
    simp only [laws_markBarS.l0]
    rw [if_neg (by omega)]
    simp
  | succ d ih =>
    intro i l c hl hn hc k hk
    obtain ⟨m, rfl⟩ : ∃ m, k = m + 1 := ⟨k - 1, by omega⟩
    obtain ⟨l', h1, h2, h3, h4⟩ := ih (i + 1) (l.set i ⟨(c : Int), ((c + 1 : Nat) : Int)⟩) (c + 2) (by rw [List.length_set]; omega) (by rw [List.length_set]; omega) (by omega) m (by omega)
    refine ⟨l', ?_, by rw [h2, List.length_set], fun j hj => ?_, fun j hj => ?_⟩
    · simp only [laws_markBarS.l0]
      rw [if_pos (by omega), if_pos (by omega)]
      simp only [Option.bind_some, Int.toNat_natCast]
      rw [rdB_set _ _ _ (by omega), List.set_set, w64 (x := (c : Int) + 1) (by omega) (by omega), w64 (x := (c : Int) + 1 + 1) (by omega) (by omega), w64 (x := (i : Int) + 1) (by omega) (by omega)]
      rw [show c + 2 * (d + 1) = c + 2 + 2 * d by omega, ← h1]
      rfl
    · rw [h3 j (by omega), List.getElem?_set_ne (by omega)]
    · cases j with
      | zero =>
        rw [Nat.add_zero, h3 i (by omega), List.getElem?_set_self (by omega)]
        rfl
      | succ j =>
        rw [show i + (j + 1) = i + 1 + j by omega, h4 j (by omega), show c + 2 + 2 * j = c + 2 * (j + 1) by omega]

theorem heldBarS_l0 : ∀ (d i : Nat) (l : List S26) (c : Nat), l.length = i + d → l.length ≤ 1000000000000 → c + 2 * d ≤ 4000000000000 →
    (∀ j, j < d → l[i + j]? = some ⟨((c + 2 * j : Nat) : Int), ((c + 2 * j + 1 : Nat) : Int)⟩) → ∀ k, d < k → laws_heldBarS.l0 k l (c : Int) (i : Int) = some ((c + 2 * d : Nat) : Int) := by
  intro d
  induction d with
  | zero =>
    intro i l c hl hn hc h k hk
    obtain ⟨m, rfl⟩ : ∃ m, k = m + 1 := ⟨k - 1, by omega⟩
    simp only [laws_heldBarS.l0]
    rw [if_neg (by omega)]
    simp
  | succ d ih =>
    intro i l c hl hn hc h k hk
    obtain ⟨m, rfl⟩ : ∃ m, k = m + 1 := ⟨k - 1, by omega⟩
    have h0 := h 0 (by omega)
    rw [Nat.add_zero] at h0
    simp only [laws_heldBarS.l0]
    rw [if_pos (by omega), if_pos (by omega), rdB_get _ _ _ h0]
    rw [w64 (x := (c : Int) + 1) (by omega) (by omega), if_pos (by simp), if_pos (by simp), w64 (x := (c : Int) + 1 + 1) (by omega) (by omega), w64 (x := (i : Int) + 1) (by omega) (by omega)]
    rw [show c + 2 * (d + 1) = c + 2 + 2 * d by omega]
    refine ih (i + 1) l (c + 2) (by omega) hn (by omega) (fun j hj => ?_) m (by omega)
    rw [show i + 1 + j = i + (j + 1) by omega, h (j + 1) (by omega), show c + 2 * (j + 1) = c + 2 + 2 * j by omega]

/-- What is marked, and what is held behind it. -/
theorem bars_held (l : List S26) (hn : l.length ≤ 1000000000000) : ∃ (c : Int) (l' : List S26), 0 ≤ c ∧ Ev (fun k => laws_markBarS.f k l 1) (c, l') ∧ Ev (fun k => laws_heldBarS.f k l' 1) c := by
  obtain ⟨l', -, h2, -, h4⟩ := markBarS_l0 l.length 0 l 1 (by omega) hn (by omega) (l.length + 1) (by omega)
  refine ⟨((1 + 2 * l.length : Nat) : Int), l', by omega, ⟨l.length + 1, fun k hk => ?_⟩, ⟨l.length + 1, fun k hk => ?_⟩⟩
  · obtain ⟨l'', g1, g2, -, g4⟩ := markBarS_l0 l.length 0 l 1 (by omega) hn (by omega) k (by omega)
    have : l'' = l' := by
      apply List.ext_getElem?
      intro j
      by_cases hj : j < l.length
      · have a := h4 j hj
        have b := g4 j hj
        rw [Nat.zero_add] at a b
        rw [a, b]
      · rw [List.getElem?_eq_none (by omega), List.getElem?_eq_none (by omega)]
    subst this
    exact g1
  · exact heldBarS_l0 l.length 0 l' 1 (by omega) (by omega) (by omega) h4 k (by omega)
end Go.Proofs.Ytocpeikkaciecaa.Pure
