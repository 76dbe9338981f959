/- LeastToEat of the program answers as the reference's, for all bars and numbers. -/
import Derived.Test.YthlnpbdjblocfaaEEat
import Derived.Test.YthlnpbdjblocfaaOEatC
import Derived.Test.YthlnpbdjblocfaaPx25
import Derived.Test.YthlnpbdjblocfaaPx31
namespace Go.Proofs.Ythlnpbdjblocfaa.Pure
open Go Go.RowKit Go.Proofs.Ythlnpbdjblocfaa.P Go.Proofs.YthlnpbdjblocfaaW.PrintWords Go.Proofs.YthlnpbdjblocfaaW.PrintLast Go.Proofs.YthlnpbdjblocfaaW.PrintMore
set_option linter.unusedVariables false
theorem leastToEat_both (a b t : Int) : ∃ r, Ev (fun k => spec_LeastToEat.f k a b t) r ∧ impl_LeastToEat.f a b t = some r := by
  cases hg : goodB a b with
  | false =>
    refine ⟨(0, false), ?_, ?_⟩
    · unfold spec_LeastToEat.f
      refine ev_val (brSome_some a b t) ?_
      rw [hg, Bool.false_and]
      exact ev_if_neg (by decide) (Ev.now _)
    · unfold impl_LeastToEat.f
      rw [hg]
      rfl
  | true =>
    have hgb := goodB_true hg
    obtain ⟨w, rfl⟩ : ∃ w : Nat, a = (w : Int) := ⟨a.toNat, by omega⟩
    obtain ⟨h, rfl⟩ : ∃ h : Nat, b = (h : Int) := ⟨b.toNat, by omega⟩
    have i : OkB (w, h) := ⟨by show 1 ≤ w; omega, by show w ≤ 12; omega, by show 1 ≤ h; omega, by show h ≤ 12; omega⟩
    have ha := i.area
    have hm : (w : Int) * (h : Int) = ((arB (w, h) : Nat) : Int) := by rw [← Int.natCast_mul]; rfl
    have hw : wrap64 ((w : Int) * (h : Int)) = ((arB (w, h) : Nat) : Int) := by rw [hm, w64 (by omega) (by omega)]
    have hs := brSome_some (w : Int) (h : Int) t
    rw [hg, Bool.true_and, hw] at hs
    by_cases hin : 0 ≤ t ∧ t ≤ ((arB (w, h) : Nat) : Int)
    · rw [decide_eq_true hin] at hs
      obtain ⟨T, hT, hev⟩ := brEat_ev (W := w) (H := h) (by omega) (by omega) (by omega) (by omega)
      obtain ⟨hl, hr⟩ := hT.rows w (by omega) (by omega)
      have he := hr h (by omega) (Nat.le_refl _)
      have hlen := hT.len
      refine ⟨(rd (eat (w, h)) t, true), ?_, ?_⟩
      · unfold spec_LeastToEat.f
        refine ev_val hs (ev_if_pos rfl (Ev.bind hev ?_))
        refine ev_if_pos (by omega) ?_
        refine ev_if_pos (by omega) ?_
        refine ev_if_pos (by omega) ?_
        refine ev_if_pos (by omega) ?_
        refine ev_if_pos (by omega) ?_
        rw [he]
        refine ev_if_pos (by rw [eat_len i]; omega) ?_
        exact Ev.now _
      · unfold impl_LeastToEat.f
        rw [hg, if_pos rfl, hm, if_pos hin, Int.toNat_natCast, Int.toNat_natCast]
    · rw [decide_eq_false hin] at hs
      refine ⟨(0, false), ?_, ?_⟩
      · unfold spec_LeastToEat.f
        exact ev_val hs (ev_if_neg (by decide) (Ev.now _))
      · unfold impl_LeastToEat.f
        rw [hg, if_pos rfl, hm, if_neg hin]
theorem FnExactLeastToEat (a0_0 : Int) (a0_1 : Int) (_ : (Lit.int .i64 a0_0).wf = true) (_ : (Lit.int .i64 a0_1).wf = true) (a1 : Int) (_ : (Lit.int .i64 a1).wf = true) : ∃ k, laws_FnExactLeastToEat.f k a0_0 a0_1 a1 = some true := by
  refine Ev.rounds (r := true) ?_
  obtain ⟨r, hS, hI⟩ := leastToEat_both a0_0 a0_1 a1
  unfold laws_FnExactLeastToEat.f
  refine ev_val (toBar_some _ _) (Ev.bind hS (ev_val (toBar_some _ _) (ev_val hI (ev_if_pos rfl ?_))))
  rw [bne_self_eq_false]
  exact ev_if_neg (by decide) (Ev.now _)
end Go.Proofs.Ythlnpbdjblocfaa.Pure
