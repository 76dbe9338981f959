/- WholeChomp of the program answers as the reference's, for all pairs of numbers; what it hands back is memory of its own. -/
import Derived.Test.YtfppdfphbphhhaaUW
import Derived.Test.YtfppdfphbphhhaaUIntEq
import Derived.Test.YtfppdfphbphhhaaUMarks
import Derived.Test.YtfppdfphbphhhaaPx31
namespace Go.Proofs.Ytfppdfphbphhhaa.Pure
open Go.RowKit Go.Proofs.Ytfppdfphbphhhaa.P Go.Proofs.YtfppdfphbphhhaaW.PrintWords Go.Proofs.YtfppdfphbphhhaaW.PrintLast
theorem whole_l0 (x : Int) : ∀ (d : Nat) (o : List Int), d ≤ 6 → o.length + d ≤ 100 → Ev (fun k => spec_WholeChomp.l0 k x (d : Int) o) (o ++ List.replicate d x, true) := by
  intro d
  induction d with
  | zero =>
    intro o h1 h2
    refine Ev.step (f := fun _ => some (o ++ List.replicate 0 x, true)) (fun k => ?_) (Ev.now _)
    simp only [spec_WholeChomp.l0]
    rw [if_neg (by omega)]
    simp
  | succ d ih =>
    intro o h1 h2
    have next := ih (o ++ [x]) (by omega) (by simp; omega)
    rw [List.append_assoc, List.singleton_append, ← List.replicate_succ] at next
    refine Ev.step (fun k => by simp only [spec_WholeChomp.l0]; rfl) (ev_if_pos (by omega) (ev_if_pos (by omega) ?_))
    rw [show wrap64 (((d + 1 : Nat) : Int) - 1) = (d : Int) by rw [w64 (by omega) (by omega)]; omega]
    exact next
theorem isSide_some (a : Int) : impl_isSide.f a = some (decide (1 ≤ a ∧ a ≤ 6)) := by
  unfold impl_isSide.f
  rw [within_some]
  rfl
theorem whole_both (a b : Int) : ∃ r : List Int × Bool, r.1.length ≤ 6 ∧ Ev (fun k => spec_WholeChomp.f k a b) r ∧ impl_WholeChomp.f a b = some r := by
  unfold spec_WholeChomp.f impl_WholeChomp.f spec_cmSides.f
  simp only [isSide_some, l1In_some, Option.bind_some]
  by_cases ha : 1 ≤ a ∧ a ≤ 6
  · rw [decide_eq_true ha]
    by_cases hb : 1 ≤ b ∧ b ≤ 6
    · rw [decide_eq_true hb]
      have s := whole_l0 a b.toNat [] (by omega) (by simp; omega)
      rw [show ((b.toNat : Nat) : Int) = b by omega, List.nil_append] at s
      refine ⟨(List.replicate b.toNat a, true), by simp; omega, ?_, ?_⟩
      · simp only [if_true, Option.bind_some]
        exact s
      · simp only [if_true]
        unfold slices_Repeat_int_int.f
        rw [if_pos ⟨rfl, hb⟩]
        rfl
    · rw [decide_eq_false hb]
      exact ⟨([], false), by simp, Ev.now _, rfl⟩
  · rw [decide_eq_false ha]
    exact ⟨([], false), by simp, Ev.now _, rfl⟩
theorem FnExactWholeChomp (a0 : Int) (_ : (Lit.int .i64 a0).wf = true) (a1 : Int) (_ : (Lit.int .i64 a1).wf = true) : ∃ k, laws_FnExactWholeChomp.f k a0 a1 = some true := by
  refine Ev.rounds (r := true) ?_
  unfold laws_FnExactWholeChomp.f
  obtain ⟨r, hr, hS, hI⟩ := whole_both a0 a1
  have he := eqIntS_refl r.1 (by omega)
  obtain ⟨c, l', hc0, hmk, hh⟩ := ints_held r.1 (by omega)
  refine Ev.bind hS (ev_val hI (Ev.bind he ?_))
  simp only [if_true, bne_self_eq_false]
  refine Ev.step (fun k => by simp only [laws_FnExactWholeChomp.j0, Bool.false_eq_true, if_false]; rfl) ?_
  refine Ev.bind hmk (Ev.bind hh ?_)
  simp only [if_neg (show ¬ c < 0 by omega), if_true]
  refine ev_val hI (Ev.bind he ?_)
  simp only [if_true, bne_self_eq_false]
  refine Ev.step (fun k => by simp only [laws_FnExactWholeChomp.j1, Bool.false_eq_true, if_false]; rfl) ?_
  refine Ev.bind hh ?_
  simp only [if_neg (show ¬ c < 0 by omega), if_true]
  exact Ev.now _
end Go.Proofs.Ytfppdfphbphhhaa.Pure
