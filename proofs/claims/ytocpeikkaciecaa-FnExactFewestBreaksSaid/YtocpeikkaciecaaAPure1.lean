/- Plain facts on bars: the tests of the program and of the reference say the same. -/
import Derived.Test.YtocpeikkaciecaaPx7
import Derived.Test.YtocpeikkaciecaaPx3
import Derived.Test.YtocpeikkaciecaaPx5
namespace Go.Proofs.Ytocpeikkaciecaa.Pure
open Go.RowKit Go.Proofs.Ytocpeikkaciecaa.P Go.Proofs.YtocpeikkaciecaaW.PrintWords Go.Proofs.YtocpeikkaciecaaW.PrintLast

theorem w64 {x : Int} (h0 : -9223372036854775808 ≤ x) (h1 : x ≤ 9223372036854775807) : wrap64 x = x := by
  unfold wrap64
  omega

theorem l1In_some (a lo hi : Int) : spec_l1In.f a lo hi = some (decide (lo ≤ a ∧ a ≤ hi)) := by
  unfold spec_l1In.f
  by_cases h : a ≥ lo
  · rw [if_pos h]
    simp [show lo ≤ a from h]
  · rw [if_neg h]
    simp [show ¬ lo ≤ a from h]
theorem within_some (a lo hi : Int) : impl_within.f a lo hi = some (decide (lo ≤ a ∧ a ≤ hi)) := by
  unfold impl_within.f
  by_cases h : lo ≤ a
  · rw [if_pos h]
    simp [h]
  · rw [if_neg h]
    simp [h]
def goodB (a b : Int) : Bool := decide ((1 ≤ a ∧ a ≤ 12) ∧ 1 ≤ b ∧ b ≤ 12)
theorem brGood_some (a b : Int) : spec_brGood.f a b = some (goodB a b) := by
  unfold spec_brGood.f goodB
  rw [l1In_some]
  simp only [Option.bind_some, decide_eq_true_eq]
  by_cases h : 1 ≤ a ∧ a ≤ 12
  · rw [if_pos h, l1In_some]
    simp [h]
  · rw [if_neg h]
    simp only [h, false_and, decide_false]
theorem isBar_some (a b : Int) : impl_isBar.f a b = some (goodB a b) := by
  unfold impl_isBar.f goodB
  rw [within_some]
  simp only [Option.bind_some, decide_eq_true_eq]
  by_cases h : 1 ≤ a ∧ a ≤ 12
  · rw [if_pos h, within_some]
    simp [h]
  · rw [if_neg h]
    simp only [h, false_and, decide_false]
theorem goodB_true {a b : Int} (h : goodB a b = true) : 1 ≤ a ∧ a ≤ 12 ∧ 1 ≤ b ∧ b ≤ 12 := by
  unfold goodB at h
  simp only [decide_eq_true_eq] at h
  exact ⟨h.1.1, h.1.2, h.2.1, h.2.2⟩
theorem toBar_some (a b : Int) : laws_toBar.f a b = some (a, b) := rfl
end Go.Proofs.Ytocpeikkaciecaa.Pure
