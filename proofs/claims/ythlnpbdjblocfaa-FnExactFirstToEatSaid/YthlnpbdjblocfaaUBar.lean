/- Bars: the program's test and the reference's are one. -/
import Derived.Test.YthlnpbdjblocfaaUW
import Derived.Test.YthlnpbdjblocfaaPx2
import Derived.Test.YthlnpbdjblocfaaPx11
import Derived.Test.YthlnpbdjblocfaaPx9
namespace Go.Proofs.Ythlnpbdjblocfaa.Pure
open Go.RowKit Go.Proofs.Ythlnpbdjblocfaa.P Go.Proofs.YthlnpbdjblocfaaW.PrintWords Go.Proofs.YthlnpbdjblocfaaW.PrintLast
def goodB (a b : Int) : Bool := decide ((1 ≤ a ∧ a ≤ 12) ∧ 1 ≤ b ∧ b ≤ 12)
theorem brGood_some (a b : Int) : spec_brGood.f a b = some (goodB a b) := by
  unfold spec_brGood.f goodB
  rw [l1In_some]
  simp only [Option.bind_some, decide_eq_true_eq]
  by_cases h : 1 ≤ a ∧ a ≤ 12
  · rw [if_pos h, l1In_some]
    simp [h]
  · rw [if_neg h]
    simp only [h, false_and, decide_false]
theorem isBar_some (a b : Int) : impl_isBar.f a b = some (goodB a b) := by
  unfold impl_isBar.f goodB
  rw [within_some]
  simp only [Option.bind_some, decide_eq_true_eq]
  by_cases h : 1 ≤ a ∧ a ≤ 12
  · rw [if_pos h, within_some]
    simp [h]
  · rw [if_neg h]
    simp only [h, false_and, decide_false]
theorem goodB_true {a b : Int} (h : goodB a b = true) : 1 ≤ a ∧ a ≤ 12 ∧ 1 ≤ b ∧ b ≤ 12 := by
  unfold goodB at h
  simp only [decide_eq_true_eq] at h
  exact ⟨h.1.1, h.1.2, h.2.1, h.2.2⟩
theorem toBar_some (a b : Int) : laws_toBar.f a b = some (a, b) := rfl
end Go.Proofs.Ythlnpbdjblocfaa.Pure
