/- Lists of breaks: compared with themselves, read, marked. Condition: a list shorter than any machine's memory. -/
import Derived.Test.YtocpeikkaciecaaAPure1
import Derived.Test.YtocpeikkaciecaaPx36
import Derived.Test.YtocpeikkaciecaaPx37
namespace Go.Proofs.Ytocpeikkaciecaa.Pure
open Go.RowKit Go.Proofs.Ytocpeikkaciecaa.P Go.Proofs.YtocpeikkaciecaaW.PrintWords Go.Proofs.YtocpeikkaciecaaW.PrintLast

theorem eqBreak_refl (a : Int) (b : Bool) (c : Int) : laws_eqBreak.f a b c a b c = some true := by simp [laws_eqBreak.f]

theorem eqBreakS_l0 (l : List S57) (hn : l.length ≤ 1000000000000) : ∀ (d i : Nat), i + d = l.length → ∀ k, d < k → laws_eqBreakS.l0 k l l (i : Int) = some true := by
  intro d
  induction d with
  | zero =>
    intro i hi k hk
    obtain ⟨m, rfl⟩ : ∃ m, k = m + 1 := ⟨k - 1, by omega⟩
    simp only [laws_eqBreakS.l0]
    rw [if_neg (by omega)]
  | succ d ih =>
    intro i hi k hk
    obtain ⟨m, rfl⟩ : ∃ m, k = m + 1 := ⟨k - 1, by omega⟩
    simp only [laws_eqBreakS.l0]
    rw [if_pos (by omega), if_pos (by omega), if_pos (by omega), eqBreak_refl]
    simp only [Option.bind_some, if_true]
    rw [w64 (by omega) (by omega)]
    exact ih (i + 1) (by omega) m (by omega)
theorem eqBreakS_refl (l : List S57) (hn : l.length ≤ 1000000000000) : Ev (fun k => laws_eqBreakS.f k l l) true := by
  refine ⟨l.length + 1, fun k hk => ?_⟩
  simp only [laws_eqBreakS.f, if_true]
  exact eqBreakS_l0 l hn l.length 0 (by omega) k (by omega)

theorem rdK_set (l : List S57) (i : Nat) (v : S57) (h : i < l.length) : rd_T57 (l.set i v) (i : Int) = v := by
  unfold rd_T57
  simp [h]
theorem rdK_get (l : List S57) (i : Nat) (v : S57) (h : l[i]? = some v) : rd_T57 l (i : Int) = v := by
  unfold rd_T57
  simp [h]
def brk (c : Nat) : S57 := ⟨(c : Int), (Int.tmod ((c + 1 : Nat) : Int) 3) == 0, ((c + 2 : Nat) : Int)⟩

theorem markBreakS_l0 : ∀ (d i : Nat) (l : List S57) (c : Nat), l.length = i + d → l.length ≤ 1000000000000 → c + 3 * d ≤ 4000000000000 → ∀ k, d < k →
    ∃ l', laws_markBreakS.l0 k l (c : Int) (i : Int) = some (((c + 3 * d : Nat) : Int), l') ∧ l'.length = l.length ∧ (∀ j, j < i → l'[j]? = l[j]?) ∧ ∀ j, j < d → l'[i + j]? = some (brk (c + 3 * j)) := by
  intro d
  induction d with
  | zero =>
    intro i l c hl hn hc k hk
    obtain ⟨m, rfl⟩ : ∃ m, k = m + 1 := ⟨k - 1, by omega⟩
    refine ⟨l, ?_, rfl, fun _ _ => rfl, fun j hj => by omega⟩
    simp only [laws_markBreakS.l0]
    rw [if_neg (by omega)]
    simp
  | succ d ih =>
    intro i l c hl hn hc k hk
    obtain ⟨m, rfl⟩ : ∃ m, k = m + 1 := ⟨k - 1, by omega⟩
    obtain ⟨l', h1, h2, h3, h4⟩ := ih (i + 1) (l.set i (brk c)) (c + 3) (by rw [List.length_set]; omega) (by rw [List.length_set]; omega) (by omega) m (by omega)
    refine ⟨l', ?_, by rw [h2, List.length_set], fun j hj => ?_, fun j hj => ?_⟩
    · simp only [laws_markBreakS.l0]
      rw [if_pos (by omega), if_pos (by omega)]
      simp only [Option.bind_some, Int.toNat_natCast]
      simp only [rdK_set _ _ _ (show i < l.length by omega), List.set_set]
      rw [w64 (x := (c : Int) + 1) (by omega) (by omega), w64 (x := (c : Int) + 1 + 1) (by omega) (by omega), w64 (x := (c : Int) + 1 + 1 + 1) (by omega) (by omega), w64 (x := (i : Int) + 1) (by omega) (by omega)]
      rw [show c + 3 * (d + 1) = c + 3 + 3 * d by omega, ← h1]
      rfl
    · rw [h3 j (by omega), List.getElem?_set_ne (by omega)]
    · cases j with
      | zero =>
        rw [Nat.add_zero, h3 i (by omega), List.getElem?_set_self (by omega)]
        rfl
      | succ j =>
        rw [show i + (j + 1) = i + 1 + j by omega, h4 j (by omega), show c + 3 + 3 * j = c + 3 * (j + 1) by omega]

/-- What is marked: a number at least 0. -/
theorem markBreakS_ev (l : List S57) (hn : l.length ≤ 1000000000000) : ∃ (c : Int) (l' : List S57), 0 ≤ c ∧ l'.length = l.length ∧ (∀ j, j < l.length → l'[j]? = some (brk (1 + 3 * j))) ∧ c = ((1 + 3 * l.length : Nat) : Int) ∧ Ev (fun k => laws_markBreakS.f k l 1) (c, l') := by
  obtain ⟨l', -, h2, -, h4⟩ := markBreakS_l0 l.length 0 l 1 (by omega) hn (by omega) (l.length + 1) (by omega)
  refine ⟨((1 + 3 * l.length : Nat) : Int), l', by omega, h2, fun j hj => by have := h4 j hj; rwa [Nat.zero_add] at this, rfl, ⟨l.length + 1, fun k hk => ?_⟩⟩
  obtain ⟨l'', g1, g2, -, g4⟩ := markBreakS_l0 l.length 0 l 1 (by omega) hn (by omega) k (by omega)
  have : l'' = l' := by
    apply List.ext_getElem?
    intro j
    by_cases hj : j < l.length
    · have a := h4 j hj
      have b := g4 j hj
      rw [Nat.zero_add] at a b
      rw [a, b]
    · rw [List.getElem?_eq_none (by omega), List.getElem?_eq_none (by omega)]
  subst this
  exact g1
end Go.Proofs.Ytocpeikkaciecaa.Pure
