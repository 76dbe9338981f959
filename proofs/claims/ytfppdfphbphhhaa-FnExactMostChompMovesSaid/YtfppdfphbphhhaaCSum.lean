/- The sum of a list: the program's way and the reference's say the same. Condition: a list shorter than any machine's memory. -/
import Derived.Test.YtfppdfphbphhhaaUW
import Derived.Test.YtfppdfphbphhhaaPx13
import Derived.Test.YtfppdfphbphhhaaPx15
namespace Go.Proofs.Ytfppdfphbphhhaa.Pure
open Go.RowKit Go.Proofs.Ytfppdfphbphhhaa.P Go.Proofs.YtfppdfphbphhhaaW.PrintWords Go.Proofs.YtfppdfphbphhhaaW.PrintLast
theorem sum_l0 (l : List Int) (hn : l.length ≤ 1048576) : ∀ (d i : Nat) (s : Int), i + d = l.length → ∃ r, Ev (fun k => spec_cmSum.l0 k s l (l.length : Int) (i : Int)) r ∧ Ev (fun k => impl_sum.l0 k s l (l.length : Int) (i : Int)) r := by
  intro d
  induction d with
  | zero =>
    intro i s hi
    exact ⟨s, Ev.step (f := fun _ => some s) (fun k => by simp only [spec_cmSum.l0]; rw [if_neg (by omega)]) (Ev.now _), Ev.step (f := fun _ => some s) (fun k => by simp only [impl_sum.l0]; rw [if_neg (by omega)]) (Ev.now _)⟩
  | succ d ih =>
    intro i s hi
    obtain ⟨r, s1, s2⟩ := ih (i + 1) (wrap64 (s + rd l (i : Int))) (by omega)
    refine ⟨r, Ev.step (fun k => ?_) s1, Ev.step (fun k => ?_) s2⟩
    · simp only [spec_cmSum.l0]
      rw [if_pos (by omega), if_pos (by omega), if_pos (by omega), w64 (x := (i : Int) + 1) (by omega) (by omega)]
      rfl
    · simp only [impl_sum.l0]
      rw [if_pos (by omega), if_pos (by omega), if_pos (by omega), w64 (x := (i : Int) + 1) (by omega) (by omega)]
      rfl
theorem sum_both (l : List Int) (hn : l.length ≤ 1048576) : ∃ r, Ev (fun k => spec_cmSum.f k l) r ∧ Ev (fun k => impl_sum.f k l) r := sum_l0 l hn l.length 0 0 (by omega)
end Go.Proofs.Ytfppdfphbphhhaa.Pure
