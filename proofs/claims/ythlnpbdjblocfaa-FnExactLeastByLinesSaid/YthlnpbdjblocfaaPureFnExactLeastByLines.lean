/- LeastByLines of the program answers as the reference's, for all lists of numbers. -/
import Derived.Test.YthlnpbdjblocfaaULeast
import Derived.Test.YthlnpbdjblocfaaPx41
import Derived.Test.YthlnpbdjblocfaaPx53
namespace Go.Proofs.Ythlnpbdjblocfaa.Pure
open Go.RowKit Go.Proofs.Ythlnpbdjblocfaa.P Go.Proofs.YthlnpbdjblocfaaW.PrintWords Go.Proofs.YthlnpbdjblocfaaW.PrintLast
set_option linter.unusedVariables false
set_option linter.unusedSimpArgs false
theorem least_l0 (x0 x1 : List Int) (O : List Ln) (hO : ∀ p ∈ O, p ∈ linesL x0 x1) (hn : O.length ≤ 1000) : ∀ (d j : Nat) (all p0 p1 : Int), j + d = O.length → Ev (fun k => spec_LeastByLines.l0 k x0 x1 all p0 p1 (O.map encL) (((O.map encL).length : Nat) : Int) (j : Int)) (((O.drop j).foldl (stepL x0 x1) (all, p0, p1)).1, true) := by
  have hl : (((O.map encL).length : Nat) : Int) = (O.length : Int) := by rw [List.length_map]
  intro d
  induction d with
  | zero =>
    intro j all p0 p1 hj
    rw [List.drop_of_length_le (by omega)]
    refine Ev.step (f := fun _ => some (all, true)) (fun k => ?_) (Ev.now _)
    simp only [spec_LeastByLines.l0]
    rw [if_neg (by omega)]
  | succ d ih =>
    intro j all p0 p1 hj
    have hlt : j < O.length := by omega
    obtain ⟨⟨way, q⟩, hp⟩ : ∃ p, O[j] = p := ⟨_, rfl⟩
    have hm := lines_bound (hO O[j] (List.getElem_mem hlt))
    rw [hp] at hm
    have hrd : rd_L1 (O.map encL) (j : Int) = [(way : Int), (q : Int)] := by
      unfold rd_L1
      rw [Int.toNat_natCast, List.getD_eq_getElem?_getD, List.getElem?_map, List.getElem?_eq_getElem hlt, hp]
      rfl
    have h0 : rd [(way : Int), (q : Int)] 0 = (way : Int) := rfl
    have h1 : rd [(way : Int), (q : Int)] 1 = (q : Int) := rfl
    have hl2 : (([(way : Int), (q : Int)].length : Nat) : Int) = 2 := rfl
    have E1 := Aside0.mk (show wrap64 ((j : Int) + 1) = ((j + 1 : Nat) : Int) by rw [w64 (by omega) (by omega)]; rfl)
    rw [List.drop_eq_getElem_cons hlt, List.foldl_cons, hp]
    rcases hm with ⟨hw, hq⟩ | ⟨hw, hq⟩
    · replace hw : way = 0 := hw
      replace hq : q < x0.length := hq
      subst hw
      have next := ih (j + 1) (wrap64 (all + wrap64 (rd x0 (q : Int) * p1))) (wrap64 (p0 + 1)) p1 (by omega)
      refine Ev.step (fun k => by simp only [spec_LeastByLines.l0, hrd, h0, h1, hl2]; rfl) ?_
      refine ev_if_pos (by omega) (ev_if_pos (by omega) (ev_if_pos (by omega) (ev_if_pos (by omega) (ev_if_pos rfl (ev_if_pos (by omega) (ev_if_pos (by omega) (ev_if_pos (by omega) ?_)))))))
      rw [E1.out]
      exact next
    · replace hw : way = 1 := hw
      replace hq : q < x1.length := hq
      subst hw
      have next := ih (j + 1) (wrap64 (all + wrap64 (rd x1 (q : Int) * p0))) p0 (wrap64 (p1 + 1)) (by omega)
      refine Ev.step (fun k => by simp only [spec_LeastByLines.l0, hrd, h0, h1, hl2]; rfl) ?_
      refine ev_if_pos (by omega) (ev_if_pos (by omega) (ev_if_pos (by omega) (ev_if_pos (by omega) (ev_if_neg (by decide) (ev_if_pos (by omega) (ev_if_pos (by omega) (ev_if_pos (by omega) ?_)))))))
      rw [E1.out]
      exact next
theorem least_both (l0 l1 : List Int) (h0 : l0.length ≤ 1048576) (h1 : l1.length ≤ 1048576) : ∃ (r : Int) (b : Bool), Ev (fun k => spec_LeastByLines.f k l0 l1) (r, b) ∧ impl_LeastByLines.f l0 l1 = some (r, b) := by
  obtain ⟨b0, s0, i0⟩ := lines_both l0 h0
  obtain ⟨b1, s1, i1⟩ := lines_both l1 h1
  unfold spec_LeastByLines.f impl_LeastByLines.f
  have none_ : Ev (fun k => spec_LeastByLines.j0 k l0 l1 true) ((0 : Int), false) := Ev.step (f := fun _ => some ((0 : Int), false)) (fun k => by simp only [spec_LeastByLines.j0]; rw [if_pos trivial]) (Ev.now _)
  rw [i0]
  cases b0 with
  | false => exact ⟨0, false, Ev.bind s0 (ev_if_neg (by decide) none_), rfl⟩
  | true =>
    cases b1 with
    | false =>
      refine ⟨0, false, Ev.bind s0 (ev_if_pos rfl (Ev.bind s1 none_)), ?_⟩
      show (impl_areLines.f l1).bind _ = _
      rw [i1]
      rfl
    | true =>
      obtain ⟨n0, q0⟩ := are_lines i0
      obtain ⟨n1, q1⟩ := are_lines i1
      have ho := order_ev (ds := l0) (cr := l1) (by omega)
      have hl := least_l0 l0 l1 (ordL l0 l1) (fun p hp => (ord_mem (cost_bound q0 q1) p).1 hp) (by have := at_most_lines q0 q1 n0 n1; omega) (ordL l0 l1).length 0 0 1 1 (by omega)
      refine ⟨leastL l0 l1 (ordL l0 l1), true, Ev.bind s0 (ev_if_pos rfl (Ev.bind s1 ?_)), ?_⟩
      · refine Ev.step (fun k => by simp only [spec_LeastByLines.j0]; rfl) (ev_if_neg (by decide) (Ev.bind ho ?_))
        exact hl
      · show (impl_areLines.f l1).bind _ = _
        rw [i1]
        rfl
theorem FnExactLeastByLines (l0 : List Int) (_ : l0.length ≤ maxLen) (_ : l0.length * 8 ≤ 140737488351232) (_ : (∀ x ∈ l0, (Lit.int .i64 x).wf = true)) (l1 : List Int) (_ : l1.length ≤ maxLen) (_ : l1.length * 8 ≤ 140737488351232) (_ : (∀ x ∈ l1, (Lit.int .i64 x).wf = true)) : ∃ k, laws_FnExactLeastByLines.f k l0 l1 = some true := by
  refine Ev.rounds ?_
  unfold laws_FnExactLeastByLines.f
  by_cases h0 : l0.length ≤ 1048576
  · refine ev_if_neg (by omega) ?_
    by_cases h1 : l1.length ≤ 1048576
    · refine ev_if_neg (by omega) ?_
      obtain ⟨r, b, hs, hi⟩ := least_both l0 l1 h0 h1
      have t0 := toIntS_ev l0 h0
      have t1 := toIntS_ev l1 h1
      refine Ev.bind t0 (Ev.bind t1 (Ev.bind hs (Ev.bind t0 (Ev.bind t1 (ev_val hi ?_)))))
      refine ev_if_pos rfl ?_
      rw [show ((r, b).2 != (r, b).2) = false from bne_self_eq_false b]
      refine Ev.step (fun k => by simp only [laws_FnExactLeastByLines.j0]; rfl) (ev_if_neg (by decide) ?_)
      exact Ev.bind t0 (Ev.bind (eqIntS_refl l0 (by omega)) (ev_if_pos rfl (Ev.bind t1 (Ev.bind (eqIntS_refl l1 (by omega)) (ev_if_pos rfl (Ev.now _))))))
    · exact ev_if_pos (by omega) (Ev.now _)
  · exact ev_if_pos (by omega) (Ev.now _)
end Go.Proofs.Ythlnpbdjblocfaa.Pure
