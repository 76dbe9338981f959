-- Written by a program of this session (pp.py, over the kit's print): not trusted, Lean checks it.
import Derived.Test.YthlnpbdjblocfaaPx0
import Derived.Test.YthlnpbdjblocfaaPx3
namespace Go.Proofs.Ythlnpbdjblocfaa.P
open Go.RowKit Go.Proofs.YthlnpbdjblocfaaW.PrintWords Go.Proofs.YthlnpbdjblocfaaW.PrintLast Go.Proofs.YthlnpbdjblocfaaW.PrintMore
attribute [local go_sem] max2_int min2_int max_two min_two max_three min_three max_four min_four   -- for this text's walks alone
set_option linter.unusedVariables false
set_option linter.unusedSimpArgs false

/-! ### spec_brTimes: function 64 -/
def spec_brTimes.f (a0 : Int) (a1 : Int) : Option (Int) := if a0 > 0 then (if a0 = 0 then (none) else (if a1 > (wrap64 ((1000000000000001 : Int) / a0)) then (some 1000000000000001) else ((spec_l1Least.f (wrap64 (a0 * a1)) 1000000000000001).bind fun t104 => (some t104)))) else ((spec_l1Least.f (wrap64 (a0 * a1)) 1000000000000001).bind fun t105 => (some t105))
set_option maxHeartbeats 8000000 in
set_option maxRecDepth 100000 in
theorem spec_brTimes.calls (a0 : Int) (a1 : Int) (r : Int) (w : World) (h : spec_brTimes.f a0 a1 = some r) :
    Calls Try.prog 64 #[.int .i64 a0, .int .i64 a1] w fun e w' => e = .returned (.int .i64 r) ∧ Drawn0 w w' := by
  have H : (if a0 > 0 then (if a0 = 0 then (none) else (if a1 > (wrap64 ((1000000000000001 : Int) / a0)) then (some 1000000000000001) else ((spec_l1Least.f (wrap64 (a0 * a1)) 1000000000000001).bind fun t104 => (some t104)))) else ((spec_l1Least.f (wrap64 (a0 * a1)) 1000000000000001).bind fun t105 => (some t105))) = some r := h
  clear h
  by_cases c3 : a0 > 0
  · rw [if_pos c3] at H
    have c3b0 : decide (0 < a0) = true := decide_eq_true c3
    clear c3
    by_cases c4 : a0 = 0
    · rw [if_pos c4] at H
      exact absurd H (by simp)
    · rw [if_neg c4] at H
      have c4b0 : (a0 == 0) = false := beq_eq_false_iff_ne.mpr c4
      have c4b1 : (a0 != 0) = true := bne_iff_ne.mpr c4
      by_cases c5 : a1 > (wrap64 ((1000000000000001 : Int) / a0))
      · rw [if_pos c5] at H
        have c5b0 : decide ((wrap64 ((1000000000000001 : Int) / a0)) < a1) = true := decide_eq_true c5
        have c5b9 : decide (wrap64 (Int.tdiv 1000000000000001 a0) < a1) = true := by rw [Int.tdiv_eq_ediv_of_nonneg (by decide)]; exact c5b0
        clear c5
        obtain rfl := Option.some.inj H
        go_enter Try.func64, Try.ntmps64
        go_wp2
        go_ret
        exact ⟨by first | rfl | (simp; done) | (simp [*]; done), by repeat (first | exact Drawn0.refl _ | apply Drawn0.step)⟩
      · rw [if_neg c5] at H
        have c5b0 : decide ((wrap64 ((1000000000000001 : Int) / a0)) < a1) = false := decide_eq_false c5
        have c5b9 : decide (wrap64 (Int.tdiv 1000000000000001 a0) < a1) = false := by rw [Int.tdiv_eq_ediv_of_nonneg (by decide)]; exact c5b0
        clear c5
        replace H := Option.bind_eq_some_iff.mp H
        obtain ⟨t104, A60, H⟩ := H
        replace H : (some t104) = some r := H
        have A6 := Aside0.mk A60
        clear A60
        obtain rfl := Option.some.inj H
        go_enter Try.func64, Try.ntmps64
        go_wp2_with (first | ((with_reducible refine gate_callee (f := 55) rfl ?_); refine goesL_ (some 16) rfl rfl Try.func55 (by kernel_rfl) rfl #[.int .i64 (wrap64 (a0 * a1)), .int .i64 1000000000000001] rfl (by (try simp only [List.map_toArray, List.map_cons, List.map_nil]); first | done | rfl | (simp only [List.length_drop, List.length_take]; rfl)) ?_; (with_reducible refine (spec_l1Least.calls (wrap64 (a0 * a1)) 1000000000000001 t104 _ A6.out).mono ?_); rintro e w' ⟨rfl, ⟨nd, rfl⟩⟩; refine ⟨_, rfl, ?_⟩))
        go_ret
        exact ⟨by first | rfl | (simp; done) | (simp [*]; done), by repeat (first | exact Drawn0.refl _ | apply Drawn0.step)⟩
  · rw [if_neg c3] at H
    have c3b0 : decide (0 < a0) = false := decide_eq_false c3
    clear c3
    replace H := Option.bind_eq_some_iff.mp H
    obtain ⟨t105, A70, H⟩ := H
    replace H : (some t105) = some r := H
    have A7 := Aside0.mk A70
    clear A70
    obtain rfl := Option.some.inj H
    go_enter Try.func64, Try.ntmps64
    go_wp2_with (first | ((with_reducible refine gate_callee (f := 55) rfl ?_); refine goesL_ (some 16) rfl rfl Try.func55 (by kernel_rfl) rfl #[.int .i64 (wrap64 (a0 * a1)), .int .i64 1000000000000001] rfl (by (try simp only [List.map_toArray, List.map_cons, List.map_nil]); first | done | rfl | (simp only [List.length_drop, List.length_take]; rfl)) ?_; (with_reducible refine (spec_l1Least.calls (wrap64 (a0 * a1)) 1000000000000001 t105 _ A7.out).mono ?_); rintro e w' ⟨rfl, ⟨nd, rfl⟩⟩; refine ⟨_, rfl, ?_⟩))
    go_ret
    exact ⟨by first | rfl | (simp; done) | (simp [*]; done), by repeat (first | exact Drawn0.refl _ | apply Drawn0.step)⟩

end Go.Proofs.Ythlnpbdjblocfaa.P
