/- In how many ways a bar can be broken: the program's number and the reference's are one, for all bars. -/
import Derived.Test.YthlnpbdjblocfaaCCounts
import Derived.Test.YthlnpbdjblocfaaPx14
namespace Go.Proofs.Ythlnpbdjblocfaa.Pure
open Go Go.RowKit Go.Proofs.Ythlnpbdjblocfaa.P Go.Proofs.YthlnpbdjblocfaaW.PrintWords Go.Proofs.YthlnpbdjblocfaaW.PrintLast
theorem countOrders_both (a b : Int) : ∃ r : Int × Bool, Ev (fun k => spec_CountOrders.f k a b) r ∧ impl_CountOrders.f a b = some r := by
  cases hg : goodB a b with
  | false =>
    refine ⟨(0, false), ?_, ?_⟩
    · unfold spec_CountOrders.f
      refine ev_val (brGood_some a b) ?_
      rw [hg]
      exact ev_if_neg (by decide) (Ev.now _)
    · unfold impl_CountOrders.f impl_counted.f
      rw [hg]
      rfl
  | true =>
    have hgb := goodB_true hg
    obtain ⟨x, rfl⟩ : ∃ x : Nat, a = (x : Int) := ⟨a.toNat, by omega⟩
    obtain ⟨y, rfl⟩ : ∃ y : Nat, b = (y : Int) := ⟨b.toNat, by omega⟩
    have c := counts_ev (ord := true) (A := x) (B := y) (by omega) (by omega) (by omega) (by omega)
    have im : impl_counted.f (x : Int) (y : Int) true = if cnt true (x, y) > 1000000000000000 then some (0, false) else some (cnt true (x, y), true) := by
      unfold impl_counted.f
      rw [hg, if_pos rfl, Int.toNat_natCast, Int.toNat_natCast]
    generalize cnt true (x, y) = n at c im
    by_cases hb : n > 1000000000000000
    · rw [if_pos hb] at im
      refine ⟨(0, false), ?_, ?_⟩
      · unfold spec_CountOrders.f
        refine ev_val (brGood_some _ _) ?_
        rw [hg]
        exact ev_if_pos rfl (Ev.bind c (ev_if_pos hb (Ev.now _)))
      · unfold impl_CountOrders.f
        rw [im]
        rfl
    · rw [if_neg hb] at im
      refine ⟨(n, true), ?_, ?_⟩
      · unfold spec_CountOrders.f
        refine ev_val (brGood_some _ _) ?_
        rw [hg]
        exact ev_if_pos rfl (Ev.bind c (ev_if_neg hb (Ev.now _)))
      · unfold impl_CountOrders.f
        rw [im]
        rfl
theorem FnExactCountOrders (a0_0 : Int) (a0_1 : Int) (_ : (Lit.int .i64 a0_0).wf = true) (_ : (Lit.int .i64 a0_1).wf = true) : ∃ k, laws_FnExactCountOrders.f k a0_0 a0_1 = some true := by
  refine Ev.rounds (r := true) ?_
  obtain ⟨r, hS, hI⟩ := countOrders_both a0_0 a0_1
  unfold laws_FnExactCountOrders.f
  refine ev_val (toBar_some _ _) (Ev.bind hS (ev_val (toBar_some _ _) (ev_val hI (ev_if_pos rfl ?_))))
  rw [bne_self_eq_false]
  exact ev_if_neg (by decide) (Ev.now _)
end Go.Proofs.Ythlnpbdjblocfaa.Pure
