/- OrderByLines of the program answers as the reference's, for all lists of numbers; its arguments are not held, and what it hands back is memory of its own, row by row. -/
import Derived.Test.YthlnpbdjblocfaaULines2
import Derived.Test.YthlnpbdjblocfaaURows
import Derived.Test.YthlnpbdjblocfaaOLawLines
namespace Go.Proofs.Ythlnpbdjblocfaa.Pure
open Go.RowKit Go.Proofs.Ythlnpbdjblocfaa.P Go.Proofs.YthlnpbdjblocfaaW.PrintWords Go.Proofs.YthlnpbdjblocfaaW.PrintLast
set_option linter.unusedVariables false
set_option linter.unusedSimpArgs false
theorem at_most_lines2 {l0 l1 : List Int} (h0 : ∀ x ∈ l0, 0 ≤ x ∧ x ≤ 100) (h1 : ∀ x ∈ l1, 0 ≤ x ∧ x ≤ 100) (hn0 : l0.length ≤ 11) (hn1 : l1.length ≤ 11) : (ordL l0 l1).length ≤ 50 := by
  have hl : l0.length + l1.length ≤ 39 := by omega
  rw [← stab_ord hl (cost_bound h0 h1)]
  have := (Srt.stab_ok (ltL l0 l1) TL_trans (linesL l0 l1) (by rw [lines_len]; exact hl) lines_agree).1.length_eq
  rw [this, lines_len]
  omega
theorem order_both (l0 l1 : List Int) (h0 : l0.length ≤ 1048576) (h1 : l1.length ≤ 1048576) : ∃ (r : List (List Int)) (b : Bool), (r.length ≤ 50 ∧ ∀ s ∈ r, s.length = 2) ∧ Ev (fun k => spec_OrderByLines.f k l0 l1) (r, b) ∧ impl_OrderByLines.f l0 l1 = some (r, b) := by
  obtain ⟨b0, s0, i0⟩ := lines_both l0 h0
  obtain ⟨b1, s1, i1⟩ := lines_both l1 h1
  unfold spec_OrderByLines.f impl_OrderByLines.f
  rw [i0]
  have few : ([] : List (List Int)).length ≤ 50 ∧ ∀ s ∈ ([] : List (List Int)), s.length = 2 := ⟨by decide, fun s hs => by cases hs⟩
  cases b0 with
  | false => exact ⟨[], false, few, Ev.bind s0 (ev_if_neg (by decide) (Ev.now _)), rfl⟩
  | true =>
    cases b1 with
    | false =>
      refine ⟨[], false, few, Ev.bind s0 (ev_if_pos rfl (Ev.bind s1 (ev_if_neg (by decide) (Ev.now _)))), ?_⟩
      show (impl_areLines.f l1).bind _ = _
      rw [i1]
      rfl
    | true =>
      obtain ⟨n0, q0⟩ := are_lines i0
      obtain ⟨n1, q1⟩ := are_lines i1
      have ho := order_ev (ds := l0) (cr := l1) (by omega)
      refine ⟨(ordL l0 l1).map encL, true, ⟨by rw [List.length_map]; exact at_most_lines2 q0 q1 n0 n1, fun s hs => ?_⟩, Ev.bind s0 (ev_if_pos rfl (Ev.bind s1 (ev_if_pos rfl (Ev.bind ho (Ev.now _))))), ?_⟩
      · obtain ⟨p, _, rfl⟩ := List.mem_map.1 hs
        rfl
      · show (impl_areLines.f l1).bind _ = _
        rw [i1]
        rfl
theorem FnExactOrderByLines (l0 : List Int) (_ : l0.length ≤ maxLen) (_ : l0.length * 8 ≤ 140737488351232) (_ : (∀ x ∈ l0, (Lit.int .i64 x).wf = true)) (l1 : List Int) (_ : l1.length ≤ maxLen) (_ : l1.length * 8 ≤ 140737488351232) (_ : (∀ x ∈ l1, (Lit.int .i64 x).wf = true)) : ∃ k, laws_FnExactOrderByLines.f k l0 l1 = some true := by
  unfold laws_FnExactOrderByLines.f
  by_cases h0 : l0.length ≤ 1048576
  · by_cases h1 : l1.length ≤ 1048576
    · obtain ⟨r, b, hr, ⟨k1, hS⟩, hI⟩ := order_both l0 l1 h0 h1
      obtain ⟨k2, ht0⟩ := toIntS_ev l0 h0
      obtain ⟨k3, ht1⟩ := toIntS_ev l1 h1
      obtain ⟨k4, he⟩ := eqIntSS_refl r (by have := hr.1; omega) (fun s hs => by have := hr.2 s hs; omega)
      obtain ⟨k5, he0⟩ := eqIntS_refl l0 (by omega)
      obtain ⟨k6, he1⟩ := eqIntS_refl l1 (by omega)
      obtain ⟨c, l', hc, ⟨k7, hm⟩, ⟨k8, hh⟩⟩ := rows_held r (by have := hr.1; omega) (fun s hs => by have := hr.2 s hs; omega)
      obtain ⟨k9, hm0⟩ := markIntS_ev l0 1 (by omega) (by omega)
      obtain ⟨k10, hm1⟩ := markIntS_ev l1 (1 + l0.length) (by omega) (by omega)
      refine ⟨k1 + k2 + k3 + k4 + k5 + k6 + k7 + k8 + k9 + k10, ?_⟩
      rw [if_neg (show ¬ ((l0.length : Int) > 1048576) by omega), if_neg (show ¬ ((l1.length : Int) > 1048576) by omega), if_pos]
      exact ⟨r, b, _, _, _, _, c, l', ht0 _ (by omega), ht1 _ (by omega), hS _ (by omega), hI, he _ (by omega), he0 _ (by omega), he1 _ (by omega), hm0 _ (by omega), hm1 _ (by omega), by omega, hm _ (by omega), hh _ (by omega), by omega⟩
    · exact ⟨0, by rw [if_neg (show ¬ ((l0.length : Int) > 1048576) by omega), if_pos (by omega)]⟩
  · exact ⟨0, if_pos (by omega)⟩
end Go.Proofs.Ythlnpbdjblocfaa.Pure
