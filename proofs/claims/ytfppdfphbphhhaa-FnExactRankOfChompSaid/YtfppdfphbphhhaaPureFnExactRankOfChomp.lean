/- RankOfChomp of the program answers as the reference's, for all lists; its argument stays. -/
import Derived.Test.YtfppdfphbphhhaaUInts
import Derived.Test.YtfppdfphbphhhaaUIntEq
import Derived.Test.YtfppdfphbphhhaaCChomp
import Derived.Test.YtfppdfphbphhhaaCRank
import Derived.Test.YtfppdfphbphhhaaPx61
namespace Go.Proofs.Ytfppdfphbphhhaa.Pure
open Go.RowKit Go.Proofs.Ytfppdfphbphhhaa.P Go.Proofs.YtfppdfphbphhhaaW.PrintWords Go.Proofs.YtfppdfphbphhhaaW.PrintLast
theorem spec_allOf : spec_cmAll.f 6 6 = some allOf := by
  unfold spec_cmAll.f
  rw [if_pos (by omega)]
  rfl
theorem rank_both (l : List Int) (hn : l.length ≤ 1048576) : ∃ r : Int × Bool, Ev (fun k => spec_RankOfChomp.f k l) r ∧ Ev (fun k => impl_RankOfChomp.f k l) r := by
  obtain ⟨b, hs, hi, hb⟩ := good_both l hn
  unfold spec_RankOfChomp.f impl_RankOfChomp.f
  cases b with
  | false =>
    refine ⟨(0, false), Ev.bind hs ?_, Ev.bind hi ?_⟩
    · simp only [Bool.false_eq_true, if_false]
      exact Ev.now _
    · simp only [Bool.false_eq_true, if_false]
      exact Ev.now _
  | true =>
    obtain ⟨h1, h6, hm, hd⟩ := hb rfl
    have hmem : l ∈ allOf := by
      have := mem_gen l h1 hm hd l.length 0 6 6 (by omega) h6 (fun h => (hm l[0] (List.getElem_mem h)).2)
      rw [List.take_zero] at this
      exact this
    obtain ⟨n, hc, hx⟩ := place l hmem
    have hk : ∀ y ∈ allOf, Ev (fun k => spec_cmKey.f k y) (keyOf y) := fun y hy => by
      have := List.all_eq_true.1 all_small y hy
      simp only [Bool.and_eq_true] at this
      exact key_ev y fun x hx => of_decide_eq_true (List.all_eq_true.1 this.2 x hx)
    have hr := rank_l0 l allOf all_len hk (key_ev l hm) allOf.length 0 0 (by omega) (Nat.le_refl _)
    rw [List.drop_zero, hc, Nat.zero_add] at hr
    refine ⟨((n : Int), true), Ev.bind hs ?_, Ev.bind hi ?_⟩
    · simp only [if_true]
      exact ev_val spec_allOf hr
    · simp only [if_true]
      have e : Lib.idxBy (fun x y => decide (y = x)) (gen 6 6 []) l = (n : Int) := hx
      rw [e]
      exact Ev.now _
theorem FnExactRankOfChomp (l0 : List Int) (_ : l0.length ≤ maxLen) (_ : l0.length * 8 ≤ 140737488351232) (_ : (∀ x ∈ l0, (Lit.int .i64 x).wf = true)) : ∃ k, laws_FnExactRankOfChomp.f k l0 = some true := by
  refine Ev.rounds (r := true) ?_
  unfold laws_FnExactRankOfChomp.f
  by_cases hl : l0.length ≤ 1048576
  · simp only [if_neg (show ¬ ((l0.length : Int) > 1048576) by omega)]
    have ht := toIntS_ev l0 hl
    obtain ⟨u, hS, hI⟩ := rank_both l0 hl
    refine Ev.bind ht (Ev.bind hS (Ev.bind ht (Ev.bind hI ?_)))
    simp only [if_true, bne_self_eq_false]
    refine Ev.step (fun k => by simp only [laws_FnExactRankOfChomp.j0, Bool.false_eq_true, if_false]; rfl) ?_
    refine Ev.bind ht (Ev.bind (eqIntS_refl l0 (by omega)) ?_)
    simp only [if_true]
    exact Ev.now _
  · simp only [if_pos (show ((l0.length : Int) > 1048576) by omega)]
    exact Ev.now _
end Go.Proofs.Ytfppdfphbphhhaa.Pure
