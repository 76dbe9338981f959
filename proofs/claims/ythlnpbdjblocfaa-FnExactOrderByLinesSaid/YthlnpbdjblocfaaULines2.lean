/- Which lists are the costs of lines: both sides say the same. Conditions: as each states. -/
import Derived.Test.YthlnpbdjblocfaaOLines
import Derived.Test.YthlnpbdjblocfaaUInts
import Derived.Test.YthlnpbdjblocfaaPx39
import Derived.Test.YthlnpbdjblocfaaPx38
namespace Go.Proofs.Ythlnpbdjblocfaa.Pure
open Go.RowKit Go.Proofs.Ythlnpbdjblocfaa.P Go.Proofs.YthlnpbdjblocfaaW.PrintWords Go.Proofs.YthlnpbdjblocfaaW.PrintLast
set_option linter.unusedVariables false
set_option linter.unusedSimpArgs false
theorem l1All_l0 (lo hi : Int) (l : List Int) (hn : l.length ≤ 1048576) : ∀ (d i : Nat), i + d = l.length → Ev (fun k => spec_l1All.l0 k lo hi l (l.length : Int) (i : Int)) ((l.drop i).all fun x => decide (lo ≤ x ∧ x ≤ hi)) := by
  intro d
  induction d with
  | zero =>
    intro i hi'
    rw [List.drop_of_length_le (by omega)]
    exact Ev.step (f := fun _ => some true) (fun k => by simp only [spec_l1All.l0]; rw [if_neg (by omega)]) (Ev.now _)
  | succ d ih =>
    intro i hi'
    have hlt : i < l.length := by omega
    rw [List.drop_eq_getElem_cons hlt, List.all_cons]
    have s := ih (i + 1) (by omega)
    by_cases h : lo ≤ l[i] ∧ l[i] ≤ hi
    · rw [decide_eq_true h, Bool.true_and]
      refine Ev.step (fun k => ?_) s
      simp only [spec_l1All.l0, rd_lt l i hlt, l1In_some, Option.bind_some]
      rw [if_pos (by omega), if_pos (by omega), if_pos (by omega), if_pos (by simpa using h), w64 (by omega) (by omega)]
      rfl
    · rw [decide_eq_false h, Bool.false_and]
      refine Ev.step (f := fun _ => some false) (fun k => ?_) (Ev.now _)
      simp only [spec_l1All.l0, rd_lt l i hlt, l1In_some, Option.bind_some]
      rw [if_pos (by omega), if_pos (by omega), if_pos (by omega), if_neg (by simpa using h)]
theorem l1All_ev (lo hi : Int) (l : List Int) (hn : l.length ≤ 1048576) : Ev (fun k => spec_l1All.f k l lo hi) (l.all fun x => decide (lo ≤ x ∧ x ≤ hi)) := l1All_l0 lo hi l hn l.length 0 (by omega)
/-- Whether a list are the costs of lines, on both sides. -/
theorem lines_both (l : List Int) (hn : l.length ≤ 1048576) : ∃ b, Ev (fun k => spec_brLines.f k l) b ∧ impl_areLines.f l = some b := by
  unfold spec_brLines.f impl_areLines.f impl_areWithin.f
  by_cases c : (l.length : Int) < 12
  · refine ⟨l.all fun x => decide (0 ≤ x ∧ x ≤ 100), ?_, ?_⟩
    · exact ev_if_pos c (Ev.bind (l1All_ev 0 100 l hn) (Ev.now _))
    · rw [if_pos c]
      rfl
  · refine ⟨false, ?_, ?_⟩
    · exact ev_if_neg c (Ev.now _)
    · rw [if_neg c]
end Go.Proofs.Ythlnpbdjblocfaa.Pure
