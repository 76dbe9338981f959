/- CountChomps of the program answers as the reference's, for all pairs of numbers. -/
import Derived.Test.YtfppdfphbphhhaaUW
import Derived.Test.YtfppdfphbphhhaaPx54
namespace Go.Proofs.Ytfppdfphbphhhaa.Pure
open Go.RowKit Go.Proofs.Ytfppdfphbphhhaa.P Go.Proofs.YtfppdfphbphhhaaW.PrintWords Go.Proofs.YtfppdfphbphhhaaW.PrintLast
theorem isSide_some (a : Int) : impl_isSide.f a = some (decide (1 ≤ a ∧ a ≤ 6)) := by
  unfold impl_isSide.f
  rw [within_some]
  rfl
theorem both_count (a b : Int) : ∃ r : Int × Bool, spec_CountChomps.f a b = some r ∧ impl_CountChomps.f a b = some r := by
  unfold spec_CountChomps.f impl_CountChomps.f spec_cmSides.f
  simp only [isSide_some, l1In_some, Option.bind_some]
  by_cases ha : 1 ≤ a ∧ a ≤ 6
  · rw [decide_eq_true ha]
    by_cases hb : 1 ≤ b ∧ b ≤ 6
    · rw [decide_eq_true hb]
      have hc : (0 ≤ a ∧ a ≤ 6) ∧ 0 ≤ b ∧ b ≤ 6 := by omega
      refine ⟨(((gen b.toNat a.toNat []).length : Int), true), ?_, ?_⟩
      · simp only [if_true, Option.bind_some]
        unfold spec_cmAll.f
        rw [if_pos hc]
        rfl
      · simp only [if_true]
        unfold impl_chomps.f
        rw [if_pos hc]
        rfl
    · rw [decide_eq_false hb]
      exact ⟨(0, false), rfl, rfl⟩
  · rw [decide_eq_false ha]
    exact ⟨(0, false), rfl, rfl⟩
theorem FnExactCountChomps (a0 : Int) (_ : (Lit.int .i64 a0).wf = true) (a1 : Int) (_ : (Lit.int .i64 a1).wf = true) : laws_FnExactCountChomps.f a0 a1 = some true := by
  obtain ⟨r, hS, hI⟩ := both_count a0 a1
  unfold laws_FnExactCountChomps.f
  rw [hS, hI]
  simp
end Go.Proofs.Ytfppdfphbphhhaa.Pure
