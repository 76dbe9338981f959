/- Lists of texts: what is held as it was marked. Condition: a list shorter than any machine's memory. -/
import Derived.Test.YthfmfeghipjpdaaDoorUMarkS
import Derived.Test.YthfmfeghipjpdaaDoorPx32
namespace Go.Proofs.YthfmfeghipjpdaaDoor.Pure
open Go.RowKit Go.Proofs.YthfmfeghipjpdaaDoor.P Go.Proofs.YthfmfeghipjpdaaDoorW.PrintWords Go.Proofs.YthfmfeghipjpdaaDoorW.PrintLast
noncomputable def marksT (n c : Nat) : List ByteArray := (List.range n).map (fun j => markT (c + j))
theorem heldStringS_l0 (n0 : Nat) (hn : n0 ≤ 1000000000000) : ∀ (d i : Nat), i + d = n0 → Ev (fun k => laws_heldStringS.l0 k (marksT n0 1) ((1 + i : Nat) : Int) (i : Int)) ((1 + n0 : Nat) : Int) := by
  have hl : (marksT n0 1).length = n0 := by simp [marksT]
  intro d
  induction d with
  | zero =>
    intro i hi
    obtain rfl : i = n0 := by omega
    refine Ev.step (f := fun _ => some ((1 + i : Nat) : Int)) (fun k => ?_) (Ev.now _)
    simp only [laws_heldStringS.l0, hl]
    rw [if_neg (by omega)]
  | succ d ih =>
    intro i hi
    have next := ih (i + 1) (by omega)
    have hr : rdOf ByteArray.empty (marksT n0 1) (i : Int) = markT (1 + i) := by
      rw [rs_lt _ i (by omega)]
      simp [marksT]
    have e1 : wrap64 (((1 + i : Nat) : Int) + 1) = ((1 + (i + 1) : Nat) : Int) := by rw [w64 (by omega) (by omega)]; omega
    have e2 : wrap64 ((i : Int) + 1) = ((i + 1 : Nat) : Int) := by rw [w64 (by omega) (by omega)]; rfl
    have f1 : (i : Int) < ((marksT n0 1).length : Int) := by rw [hl]; omega
    refine Ev.step (fun k => by simp only [laws_heldStringS.l0, hr, e1, e2]; rfl) (ev_if_pos f1 (ev_if_pos (by omega) (Ev.bind (markT_ev (1 + i) (by omega)) (ev_if_pos rfl next))))
/-- What is marked, and what is held behind it. -/
theorem strs_held (l : List ByteArray) (hn : l.length ≤ 1000000000000) : ∃ (c : Int) (l' : List ByteArray), 0 ≤ c ∧ Ev (fun k => laws_markStringS.f k l 1) (c, l') ∧ Ev (fun k => laws_heldStringS.f k l' 1) c := by
  have s := markStringS_l0 l.length 0 l 1 (by omega) hn (by omega)
  rw [List.take_zero, List.nil_append] at s
  exact ⟨_, _, by omega, s, heldStringS_l0 l.length hn l.length 0 (by omega)⟩
end Go.Proofs.YthfmfeghipjpdaaDoor.Pure
