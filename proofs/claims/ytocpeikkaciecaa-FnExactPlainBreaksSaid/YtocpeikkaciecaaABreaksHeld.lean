/- Lists of breaks that are marked read as marked. Condition: a list shorter than any machine's memory. -/
import Derived.Test.YtocpeikkaciecaaABreaks
import Derived.Test.YtocpeikkaciecaaPx38
namespace Go.Proofs.Ytocpeikkaciecaa.Pure
open Go.RowKit Go.Proofs.Ytocpeikkaciecaa.P Go.Proofs.YtocpeikkaciecaaW.PrintWords Go.Proofs.YtocpeikkaciecaaW.PrintLast
theorem heldBreakS_l0 : ∀ (d i : Nat) (l : List S57) (c : Nat), l.length = i + d → l.length ≤ 1000000000000 → c + 3 * d ≤ 4000000000000 →
    (∀ j, j < d → l[i + j]? = some (brk (c + 3 * j))) → ∀ k, d < k → laws_heldBreakS.l0 k l (c : Int) (i : Int) = some ((c + 3 * d : Nat) : Int) := by
  intro d
  induction d with
  | zero =>
    intro i l c hl hn hc h k hk
    obtain ⟨m, rfl⟩ : ∃ m, k = m + 1 := ⟨k - 1, by omega⟩
    simp only [laws_heldBreakS.l0]
    rw [if_neg (by omega)]
    simp
  | succ d ih =>
    intro i l c hl hn hc h k hk
    obtain ⟨m, rfl⟩ : ∃ m, k = m + 1 := ⟨k - 1, by omega⟩
    have h0 := h 0 (by omega)
    rw [Nat.add_zero] at h0
    simp only [laws_heldBreakS.l0]
    rw [if_pos (by omega), if_pos (by omega), rdK_get _ _ _ h0]
    rw [w64 (x := (c : Int) + 1) (by omega) (by omega), w64 (x := (c : Int) + 1 + 1) (by omega) (by omega), w64 (x := (c : Int) + 1 + 1 + 1) (by omega) (by omega), w64 (x := (i : Int) + 1) (by omega) (by omega)]
    rw [if_pos (by simp [brk]), if_neg (by simp [brk]), if_pos (by simp [brk]; omega)]
    rw [show c + 3 * (d + 1) = c + 3 + 3 * d by omega]
    refine ih (i + 1) l (c + 3) (by omega) hn (by omega) (fun j hj => ?_) m (by omega)
    rw [show i + 1 + j = i + (j + 1) by omega, h (j + 1) (by omega), show c + 3 * (j + 1) = c + 3 + 3 * j by omega]
theorem breaks_held (l : List S57) (hn : l.length ≤ 1000000000000) : ∃ (c : Int) (l' : List S57), 0 ≤ c ∧ Ev (fun k => laws_markBreakS.f k l 1) (c, l') ∧ Ev (fun k => laws_heldBreakS.f k l' 1) c := by
  obtain ⟨c, l', h0, h1, h2, h3, h4⟩ := markBreakS_ev l hn
  refine ⟨c, l', h0, h4, ⟨l.length + 1, fun k hk => ?_⟩⟩
  rw [h3]
  exact heldBreakS_l0 l.length 0 l' 1 (by omega) (by omega) (by omega) (fun j hj => by rw [Nat.zero_add]; exact h2 j hj) k (by omega)
end Go.Proofs.Ytocpeikkaciecaa.Pure
