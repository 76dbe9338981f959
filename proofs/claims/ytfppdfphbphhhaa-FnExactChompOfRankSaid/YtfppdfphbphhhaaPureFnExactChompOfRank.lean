/- ChompOfRank of the program answers as the reference's, for all numbers; what it hands back is memory of its own. -/
import Derived.Test.YtfppdfphbphhhaaUW
import Derived.Test.YtfppdfphbphhhaaUIntEq
import Derived.Test.YtfppdfphbphhhaaUMarks
import Derived.Test.YtfppdfphbphhhaaPx57
namespace Go.Proofs.Ytfppdfphbphhhaa.Pure
open Go.RowKit Go.Proofs.Ytfppdfphbphhhaa.P Go.Proofs.YtfppdfphbphhhaaW.PrintWords Go.Proofs.YtfppdfphbphhhaaW.PrintLast
def allChomps : List (List Int) := gen 6 6 []
theorem all_short : (allChomps.all fun x => decide (x.length ≤ 6)) = true := by decide +kernel
theorem all_few : allChomps.length ≤ 1000 ∧ 1 ≤ allChomps.length := by decide +kernel
theorem spec_all : spec_cmAll.f 6 6 = some allChomps := by
  unfold spec_cmAll.f
  rw [if_pos (by omega)]
  rfl
theorem impl_all : impl_chomps.f 6 6 = some allChomps := by
  unfold impl_chomps.f
  rw [if_pos (by omega)]
  rfl
theorem both_rank (a : Int) : ∃ r : List Int × Bool, r.1.length ≤ 6 ∧ spec_ChompOfRank.f a = some r ∧ impl_ChompOfRank.f a = some r := by
  unfold spec_ChompOfRank.f impl_ChompOfRank.f
  simp only [spec_all, impl_all, within_some, l1In_some, Option.bind_some]
  have hs := all_short
  have hf := all_few
  generalize allChomps = l at hs hf ⊢
  rw [w64 (by omega) (by omega)]
  by_cases ha : 0 ≤ a ∧ a ≤ (l.length : Int) - 1
  · rw [decide_eq_true ha]
    refine ⟨(rd_L1 l a, true), ?_, ?_, ?_⟩
    · unfold rd_L1
      have hl : a.toNat < l.length := by omega
      rw [List.getD_eq_getElem?_getD, List.getElem?_eq_getElem hl]
      exact of_decide_eq_true (List.all_eq_true.1 hs _ (List.getElem_mem hl))
    · rw [if_pos rfl, if_pos ha.1, if_pos (by omega)]
    · rw [if_pos rfl, if_pos ha.1, if_pos (by omega)]
  · rw [decide_eq_false ha]
    exact ⟨([], false), by simp, rfl, rfl⟩
theorem FnExactChompOfRank (a0 : Int) (_ : (Lit.int .i64 a0).wf = true) : ∃ k, laws_FnExactChompOfRank.f k a0 = some true := by
  refine Ev.rounds (r := true) ?_
  unfold laws_FnExactChompOfRank.f
  obtain ⟨r, hr, hS, hI⟩ := both_rank a0
  have he := eqIntS_refl r.1 (by omega)
  obtain ⟨c, l', hc0, hmk, hh⟩ := ints_held r.1 (by omega)
  refine ev_val hS (ev_val hI (Ev.bind he ?_))
  simp only [if_true, bne_self_eq_false]
  refine Ev.step (fun k => by simp only [laws_FnExactChompOfRank.j0, Bool.false_eq_true, if_false]; rfl) ?_
  refine Ev.bind hmk (Ev.bind hh ?_)
  simp only [if_neg (show ¬ c < 0 by omega), if_true]
  refine ev_val hI (Ev.bind he ?_)
  simp only [if_true, bne_self_eq_false]
  refine Ev.step (fun k => by simp only [laws_FnExactChompOfRank.j1, Bool.false_eq_true, if_false]; rfl) ?_
  refine Ev.bind hh ?_
  simp only [if_neg (show ¬ c < 0 by omega), if_true]
  exact Ev.now _
end Go.Proofs.Ytfppdfphbphhhaa.Pure
