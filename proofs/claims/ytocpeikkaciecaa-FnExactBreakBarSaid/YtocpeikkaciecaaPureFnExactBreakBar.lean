/- BreakBar of the program answers as the reference's, for all numbers. -/
import Derived.Test.YtocpeikkaciecaaAPure1
import Derived.Test.YtocpeikkaciecaaPx26
namespace Go.Proofs.Ytocpeikkaciecaa.Pure
open Go.RowKit Go.Proofs.Ytocpeikkaciecaa.P
theorem FnExactBreakBar (a0_0 : Int) (a0_1 : Int) (_ : (Lit.int .i64 a0_0).wf = true) (_ : (Lit.int .i64 a0_1).wf = true) (a1 : Bool) (a2 : Int) (_ : (Lit.int .i64 a2).wf = true) : laws_FnExactBreakBar.f a0_0 a0_1 a1 a2 = some true := by
  unfold laws_FnExactBreakBar.f spec_BreakBar.f impl_BreakBar.f impl_Bar_broken.f spec_brCan.f spec_brParts.f
  simp only [toBar_some, brGood_some, isBar_some, l1In_some, within_some, Option.bind_some]
  cases a1
  · simp only [Bool.false_eq_true, if_false, Option.bind_some]
    cases goodB a0_0 a0_1
    · simp [laws_eqBar.f]
    · by_cases h : 1 ≤ a2 ∧ a2 ≤ wrap64 (a0_1 - 1)
      · simp [h, laws_eqBar.f]
      · simp only [h, decide_false]
        simp [laws_eqBar.f]
  · simp only [if_true, Option.bind_some]
    cases goodB a0_0 a0_1
    · simp [laws_eqBar.f]
    · by_cases h : 1 ≤ a2 ∧ a2 ≤ wrap64 (a0_0 - 1)
      · simp [h, laws_eqBar.f]
      · simp only [h, decide_false]
        simp [laws_eqBar.f]
end Go.Proofs.Ytocpeikkaciecaa.Pure
