/- IsBreak of the program answers as the reference's, for all bars, lists of breaks and next ones. -/
import Derived.Test.YtocpeikkaciecaaAAfter
import Derived.Test.YtocpeikkaciecaaPx52
namespace Go.Proofs.Ytocpeikkaciecaa.Pure
open Go.RowKit Go.Proofs.Ytocpeikkaciecaa.P Go.Proofs.YtocpeikkaciecaaW.PrintWords Go.Proofs.YtocpeikkaciecaaW.PrintLast
theorem isBreak_j0 (q : List S26) (hq : q.length ≤ 1048577) (z : Bool) (x : Int) (d : Bool) (t : Int) : ∃ u : Bool × Bool, Ev (fun k => spec_IsBreak.j0 k q z x d t) u ∧ Ev (fun k => impl_IsBreak.j0 k q z x d t) u := by
  cases z with
  | true => exact ⟨(false, false), Ev.step (fun k => by simp only [spec_IsBreak.j0, if_true]) (Ev.now _), Ev.step (fun k => by simp only [impl_IsBreak.j0, if_true]) (Ev.now _)⟩
  | false =>
    by_cases h : 0 ≤ x ∧ x ≤ wrap64 ((q.length : Int) - 1)
    · have h2 := h.2
      rw [w64 (by omega) (by omega)] at h2
      refine ⟨(canB (rd_T26 q x).f0 (rd_T26 q x).f1 d t, true), Ev.step (f := fun _ => some (canB (rd_T26 q x).f0 (rd_T26 q x).f1 d t, true)) (fun k => ?_) (Ev.now _), Ev.step (f := fun _ => some (canB (rd_T26 q x).f0 (rd_T26 q x).f1 d t, true)) (fun k => ?_) (Ev.now _)⟩
      · simp only [spec_IsBreak.j0, Bool.false_eq_true, if_false, l1In_some, Option.bind_some]
        rw [if_pos (by simpa using h), if_pos (by omega), if_pos (by omega), brCan_some]
        rfl
      · simp only [impl_IsBreak.j0, Bool.false_eq_true, if_false, within_some, Option.bind_some]
        rw [if_pos (by simpa using h), if_pos (by omega), if_pos (by omega), broken_some]
        rfl
    · refine ⟨(false, true), Ev.step (f := fun _ => some (false, true)) (fun k => ?_) (Ev.now _), Ev.step (f := fun _ => some (false, true)) (fun k => ?_) (Ev.now _)⟩
      · simp only [spec_IsBreak.j0, Bool.false_eq_true, if_false, l1In_some, Option.bind_some]
        rw [if_neg (by simpa using h)]
      · simp only [impl_IsBreak.j0, Bool.false_eq_true, if_false, within_some, Option.bind_some]
        rw [if_neg (by simpa using h)]
theorem FnExactIsBreak (a0_0 : Int) (a0_1 : Int) (_ : (Lit.int .i64 a0_0).wf = true) (_ : (Lit.int .i64 a0_1).wf = true) (l1 : List P.S54) (hm : l1.length ≤ maxLen) (_ : l1.length * 24 ≤ 140737488351232) (_ : (∀ x ∈ l1, (Lit.int .i64 x.f0).wf = true ∧ (Lit.int .i64 x.f2).wf = true)) (a2_0 : Int) (a2_1 : Bool) (a2_2 : Int) (_ : (Lit.int .i64 a2_0).wf = true) (_ : (Lit.int .i64 a2_2).wf = true) : ∃ k, laws_FnExactIsBreak.f k a0_0 a0_1 l1 a2_0 a2_1 a2_2 = some true := by
  refine Ev.rounds (r := true) ?_
  unfold laws_FnExactIsBreak.f
  simp only [szBreakS_some l1 hm, toBar_some, laws_toBreak.f, Option.bind_some]
  by_cases hl : l1.length ≤ 1048576
  · simp only [if_pos hl, if_neg (show ¬ (1048576 - (l1.length : Int) < 0) by omega)]
    have ht := toBreakS_ev l1 hl
    have hlen : (l1.map toK).length ≤ 1048576 := by rw [List.length_map]; exact hl
    obtain ⟨r, s, hr, hs, h1, h2, h3, h4⟩ := after_both (l1.map toK) hlen a0_0 a0_1
    obtain ⟨u, hS, hI⟩ : ∃ u, Ev (fun k => spec_IsBreak.f k a0_0 a0_1 (l1.map toK) a2_0 a2_1 a2_2) u ∧ Ev (fun k => impl_IsBreak.f k a0_0 a0_1 (l1.map toK) a2_0 a2_1 a2_2) u := by
      cases hb : r.2.2 with
      | true =>
        obtain ⟨u, u1, u2⟩ := isBreak_j0 r.1 (by rw [h4 hb]; omega) (((l1.map toK).length : Int) == 144) a2_0 a2_1 a2_2
        refine ⟨u, ?_, ?_⟩
        · unfold spec_IsBreak.f
          refine Ev.bind hr ?_
          simp only [hb, if_true]
          exact u1
        · unfold impl_IsBreak.f
          refine Ev.bind hs ?_
          rw [h2 hb]
          simp only [hb, if_true]
          exact u2
      | false =>
        obtain ⟨u, u1, u2⟩ := isBreak_j0 [] (by simp) true a2_0 a2_1 a2_2
        have e1 : Ev (fun k => spec_IsBreak.j0 k r.1 true a2_0 a2_1 a2_2) (false, false) := Ev.step (fun k => by simp only [spec_IsBreak.j0, if_true]) (Ev.now _)
        have e2 : Ev (fun k => impl_IsBreak.j0 k s.1 true a2_0 a2_1 a2_2) (false, false) := Ev.step (fun k => by simp only [impl_IsBreak.j0, if_true]) (Ev.now _)
        refine ⟨(false, false), ?_, ?_⟩
        · unfold spec_IsBreak.f
          refine Ev.bind hr ?_
          simp only [hb, Bool.false_eq_true, if_false]
          exact e1
        · unfold impl_IsBreak.f
          refine Ev.bind hs ?_
          simp only [h1, hb, Bool.false_eq_true, if_false]
          exact e2
    refine Ev.bind ht (Ev.bind hS (Ev.bind ht (Ev.bind hI ?_)))
    simp only [bne_self_eq_false, Bool.false_eq_true, if_false]
    refine Ev.step (fun k => by simp only [laws_FnExactIsBreak.j0, Bool.false_eq_true, if_false]; rfl) ?_
    refine Ev.bind ht (Ev.bind (eqBreakS_refl _ (by omega)) ?_)
    simp only [if_true]
    exact Ev.now _
  · simp only [if_neg hl, if_pos (show (-1 : Int) < 0 by omega)]
    exact Ev.now _
end Go.Proofs.Ytocpeikkaciecaa.Pure
