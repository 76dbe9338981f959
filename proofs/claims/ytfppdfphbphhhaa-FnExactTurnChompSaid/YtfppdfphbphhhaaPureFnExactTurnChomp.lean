/- TurnChomp of the program answers as the reference's, for all lists; its argument stays, and what it hands back is memory of its own. -/
import Derived.Test.YtfppdfphbphhhaaUInts
import Derived.Test.YtfppdfphbphhhaaUMarks
import Derived.Test.YtfppdfphbphhhaaCChomp
import Derived.Test.YtfppdfphbphhhaaCTurn
import Derived.Test.YtfppdfphbphhhaaPx36
namespace Go.Proofs.Ytfppdfphbphhhaa.Pure
open Go.RowKit Go.Proofs.Ytfppdfphbphhhaa.P Go.Proofs.YtfppdfphbphhhaaW.PrintWords Go.Proofs.YtfppdfphbphhhaaW.PrintLast
theorem turn_both (l : List Int) (hn : l.length ≤ 1048576) : ∃ r : List Int × Bool, r.1.length ≤ 6 ∧ Ev (fun k => spec_TurnChomp.f k l) r ∧ Ev (fun k => impl_TurnChomp.f k l) r := by
  obtain ⟨b, hs, hi, hb⟩ := good_both l hn
  cases b with
  | false =>
    refine ⟨([], false), by simp, ?_, ?_⟩
    · unfold spec_TurnChomp.f
      refine Ev.bind hs ?_
      simp only [Bool.false_eq_true, if_false]
      exact Ev.now _
    · unfold impl_TurnChomp.f
      refine Ev.bind hi ?_
      simp only [Bool.false_eq_true, if_false]
      exact Ev.now _
  | true =>
    obtain ⟨h1, h6, hm, hd⟩ := hb rfl
    have h0 := hm l[0] (List.getElem_mem (by omega))
    obtain ⟨w, hw⟩ : ∃ w : Nat, l[0] = (w : Int) := ⟨l[0].toNat, by omega⟩
    have hr0 : rd l 0 = (w : Int) := by
      have := rd_lt l 0 (by omega)
      rw [hw] at this
      exact this
    refine ⟨(cols l w, true), by unfold cols; simp; omega, ?_, ?_⟩
    · unfold spec_TurnChomp.f
      refine Ev.bind hs ?_
      simp only [if_true]
      exact spec_turn_l0 l h1 h6 hd w hr0 (by omega) w 0 (by omega)
    · unfold impl_TurnChomp.f
      refine Ev.bind hi ?_
      simp only [if_true, hr0, Int.toNat_natCast, if_pos (show 0 < (l.length : Int) by omega), if_pos (show 0 ≤ (w : Int) by omega), if_pos (show w ≤ 35184372088832 by omega)]
      have e : List.replicate w (0 : Int) = cols (l.take 0) w := by
        unfold cols over
        apply List.ext_getElem?
        intro j
        by_cases hj : j < w
        · simp [hj]
        · rw [List.getElem?_eq_none (by simp; omega), List.getElem?_eq_none (by simp; omega)]
      rw [e]
      refine impl_turn_l0 l h6 w (by omega) (fun i hi => ?_) l.length 0 (by omega)
      have a := hm l[i] (List.getElem_mem hi)
      have c := falls hd i 0 (by omega)
      simp only [Nat.zero_add] at c
      omega

theorem FnExactTurnChomp (l0 : List Int) (_ : l0.length ≤ maxLen) (_ : l0.length * 8 ≤ 140737488351232) (_ : (∀ x ∈ l0, (Lit.int .i64 x).wf = true)) : ∃ k, laws_FnExactTurnChomp.f k l0 = some true := by
  refine Ev.rounds (r := true) ?_
  unfold laws_FnExactTurnChomp.f
  by_cases hl : l0.length ≤ 1048576
  · simp only [if_neg (show ¬ ((l0.length : Int) > 1048576) by omega)]
    have ht := toIntS_ev l0 hl
    obtain ⟨r, hr, hS, hI⟩ := turn_both l0 hl
    have he := eqIntS_refl r.1 (by omega)
    obtain ⟨c, l', hc, hm, hh⟩ := ints_held r.1 (by omega)
    obtain ⟨c2, l2, hc2, hm2, -⟩ := ints_held l0 (by omega)
    refine Ev.bind ht (Ev.bind hS (Ev.bind ht (Ev.bind hI (Ev.bind he ?_))))
    simp only [if_true, bne_self_eq_false]
    refine Ev.step (fun k => by simp only [laws_FnExactTurnChomp.j0, Bool.false_eq_true, if_false]; rfl) ?_
    refine Ev.bind ht (Ev.bind (eqIntS_refl l0 (by omega)) ?_)
    simp only [if_true]
    refine Ev.bind hm2 ?_
    simp only [if_neg (show ¬ c2 < 0 by omega)]
    refine Ev.bind he ?_
    simp only [if_true, bne_self_eq_false]
    refine Ev.step (fun k => by simp only [laws_FnExactTurnChomp.j1, Bool.false_eq_true, if_false]; rfl) ?_
    refine Ev.bind hm (Ev.bind hh ?_)
    simp only [if_neg (show ¬ c < 0 by omega), if_true]
    refine Ev.bind ht (Ev.bind hI (Ev.bind he ?_))
    simp only [if_true, bne_self_eq_false]
    refine Ev.step (fun k => by simp only [laws_FnExactTurnChomp.j2, Bool.false_eq_true, if_false]; rfl) ?_
    refine Ev.bind hh ?_
    simp only [if_neg (show ¬ c < 0 by omega), if_true]
    exact Ev.now _
  · simp only [if_pos (show ((l0.length : Int) > 1048576) by omega)]
    exact Ev.now _
end Go.Proofs.Ytfppdfphbphhhaa.Pure
