-- Written by a program of this session (pp.py, over the kit's print): not trusted, Lean checks it.
import Derived.Test.YtedpdfmaccoinaaDoorPx0
import Derived.Test.YtedpdfmaccoinaaDoorPx4
import Derived.Test.YtedpdfmaccoinaaDoorPx26
import Derived.Test.YtedpdfmaccoinaaDoorPx27
namespace Go.Proofs.YtedpdfmaccoinaaDoor.P
open Go.RowKit Go.Proofs.YtedpdfmaccoinaaDoorW.PrintWords Go.Proofs.YtedpdfmaccoinaaDoorW.PrintLast Go.Proofs.YtedpdfmaccoinaaDoorW.PrintMore
attribute [local go_sem] max2_int min2_int max_two min_two max_three min_three max_four min_four   -- for this text's walks alone
set_option linter.unusedVariables false
set_option linter.unusedSimpArgs false

/-! ### spec_ntBreak: function 45 -/
def spec_ntBreak.f (k : Nat) (l0 : List ByteArray) (a1 : Bool) (a2 : Int) : Option (Int) := if a1 = true then ((spec_ntSum.f k l0 0 0 a2 (l0.length : Int)).bind fun t197 => ((spec_ntAll.f k l0).bind fun t198 => ((spec_l1Abs.f (wrap64 (t198 - (wrap64 (2 * t197))))).bind fun t199 => (some t199)))) else (if 0 < (l0.length : Int) then ((spec_ntSum.f k l0 0 0 ((rdOf ByteArray.empty l0 0).size : Int) a2).bind fun t201 => ((spec_ntAll.f k l0).bind fun t202 => ((spec_l1Abs.f (wrap64 (t202 - (wrap64 (2 * t201))))).bind fun t203 => (some t203)))) else (none))
theorem spec_ntBreak.mono : ∀ a0 a1 a2 k, LeO (spec_ntBreak.f k a0 a1 a2) (spec_ntBreak.f (k + 1) a0 a1 a2) := by
  intro a0 a1 a2 k
  unfold spec_ntBreak.f
  repeat' first
      | (with_reducible exact spec_ntAll.mono _ _)
      | (with_reducible exact spec_ntSum.mono _ _ _ _ _ _)
      | (with_reducible exact LeO.refl _)
      | (with_reducible exact LeO.none _)
      | (with_reducible refine LeO.ite ?_ ?_)
      | (with_reducible refine LeO.bind ?_ (fun _ => ?_))
      | exact spec_ntAll.mono _ _
      | exact spec_ntSum.mono _ _ _ _ _ _
      | exact LeO.none _
      | refine LeO.ite ?_ ?_
      | refine LeO.bind ?_ (fun _ => ?_)
set_option maxHeartbeats 8000000 in
set_option maxRecDepth 100000 in
theorem spec_ntBreak.calls (k : Nat) (A0 : Option Addr) (c0 : Nat) (l0 : List ByteArray) (a1 : Bool) (a2 : Int) (r : Int) (w : World) (hr0 : Kd.C Kd.string w A0 l0.length l0) (hc0 : l0.length ≤ c0) (h : spec_ntBreak.f k l0 a1 a2 = some r) :
    Calls Tryd.prog 45 #[.slice A0 l0.length c0, .bool a1, .int .i64 a2] w fun e w' => e = .returned (.int .i64 r) ∧ Drawn0 w w' := by
  have HR0 := Aside0.mk hr0
  have HC0 := Aside0.mk hc0
  clear hr0 hc0
  have H : (if a1 = true then ((spec_ntSum.f k l0 0 0 a2 (l0.length : Int)).bind fun t197 => ((spec_ntAll.f k l0).bind fun t198 => ((spec_l1Abs.f (wrap64 (t198 - (wrap64 (2 * t197))))).bind fun t199 => (some t199)))) else (if 0 < (l0.length : Int) then ((spec_ntSum.f k l0 0 0 ((rdOf ByteArray.empty l0 0).size : Int) a2).bind fun t201 => ((spec_ntAll.f k l0).bind fun t202 => ((spec_l1Abs.f (wrap64 (t202 - (wrap64 (2 * t201))))).bind fun t203 => (some t203)))) else (none))) = some r := h
  clear h
  by_cases c4 : a1 = true
  · subst c4
    have H1 : ((spec_ntSum.f k l0 0 0 a2 (l0.length : Int)).bind fun t197 => ((spec_ntAll.f k l0).bind fun t198 => ((spec_l1Abs.f (wrap64 (t198 - (wrap64 (2 * t197))))).bind fun t199 => (some t199)))) = some r := by rw [if_pos rfl] at H; exact H
    clear H
    have H := H1
    clear H1
    replace H := Option.bind_eq_some_iff.mp H
    obtain ⟨t197, A50, H⟩ := H
    replace H : ((spec_ntAll.f k l0).bind fun t198 => ((spec_l1Abs.f (wrap64 (t198 - (wrap64 (2 * t197))))).bind fun t199 => (some t199))) = some r := H
    have A5 := Aside0.mk A50
    clear A50
    replace H := Option.bind_eq_some_iff.mp H
    obtain ⟨t198, A60, H⟩ := H
    replace H : ((spec_l1Abs.f (wrap64 (t198 - (wrap64 (2 * t197))))).bind fun t199 => (some t199)) = some r := H
    have A6 := Aside0.mk A60
    clear A60
    replace H := Option.bind_eq_some_iff.mp H
    obtain ⟨t199, A70, H⟩ := H
    replace H : (some t199) = some r := H
    have A7 := Aside0.mk A70
    clear A70
    obtain rfl := Option.some.inj H
    go_enter Tryd.func45, Tryd.ntmps45
    go_wp2_with (first | ((with_reducible refine gate_callee (f := 55) rfl ?_); refine goesL_ (some 13) rfl rfl Tryd.func55 (by kernel_rfl) rfl #[.slice A0 l0.length c0, .int .i64 0, .int .i64 0, .int .i64 a2, .int .i64 (l0.length : Int)] rfl (by (try simp only [List.map_toArray, List.map_cons, List.map_nil]); first | done | rfl | (simp only [List.length_drop, List.length_take]; rfl)) ?_; (with_reducible refine (spec_ntSum.calls k _ _ l0 0 0 a2 (l0.length : Int) t197 _ ?side1 ?side2 A5.out).mono ?_); (case side1 => repeat (first | exact HR0.out | (with_reducible refine Kd.C_alloc ?_ _) | (with_reducible refine Kd.C_drewN ?_ _) | (with_reducible refine Kd.C_drew ?_))); (case side2 => exact HC0.out); rintro e w' ⟨rfl, ⟨nd, rfl⟩⟩; refine ⟨_, rfl, ?_⟩) | ((with_reducible refine gate_callee (f := 65) rfl ?_); refine goesL_ (some 22) rfl rfl Tryd.func65 (by kernel_rfl) rfl #[.slice A0 l0.length c0] rfl (by (try simp only [List.map_toArray, List.map_cons, List.map_nil]); first | done | rfl | (simp only [List.length_drop, List.length_take]; rfl)) ?_; (with_reducible refine (spec_ntAll.calls k _ _ l0 t198 _ ?side1 ?side2 A6.out).mono ?_); (case side1 => repeat (first | exact HR0.out | (with_reducible refine Kd.C_alloc ?_ _) | (with_reducible refine Kd.C_drewN ?_ _) | (with_reducible refine Kd.C_drew ?_))); (case side2 => exact HC0.out); rintro e w' ⟨rfl, ⟨nd, rfl⟩⟩; refine ⟨_, rfl, ?_⟩) | ((with_reducible refine gate_callee (f := 64) rfl ?_); refine goesL_ (some 26) rfl rfl Tryd.func64 (by kernel_rfl) rfl #[.int .i64 (wrap64 (t198 - (wrap64 (2 * t197))))] rfl (by (try simp only [List.map_toArray, List.map_cons, List.map_nil]); first | done | rfl | (simp only [List.length_drop, List.length_take]; rfl)) ?_; (with_reducible refine (spec_l1Abs.calls (wrap64 (t198 - (wrap64 (2 * t197)))) t199 _ A7.out).mono ?_); rintro e w' ⟨rfl, ⟨nd, rfl⟩⟩; refine ⟨_, rfl, ?_⟩))
    go_ret
    exact ⟨by first | rfl | (simp; done) | (simp [*]; done), by repeat (first | exact Drawn0.refl _ | apply Drawn0.step)⟩
  · replace c4 := Bool.eq_false_iff.mpr c4
    subst c4
    have H1 : (if 0 < (l0.length : Int) then ((spec_ntSum.f k l0 0 0 ((rdOf ByteArray.empty l0 0).size : Int) a2).bind fun t201 => ((spec_ntAll.f k l0).bind fun t202 => ((spec_l1Abs.f (wrap64 (t202 - (wrap64 (2 * t201))))).bind fun t203 => (some t203)))) else (none)) = some r := by rw [if_neg (show ¬ (false = true) by decide)] at H; exact H
    clear H
    have H := H1
    clear H1
    by_cases c8 : 0 < (l0.length : Int)
    · rw [if_pos c8] at H
      have c8b0 : decide (0 < (l0.length : Int)) = true := decide_eq_true c8
      have c8b1 : decide (0 < l0.length) = true := decide_eq_true (by omega)
      clear c8
      replace H := Option.bind_eq_some_iff.mp H
      obtain ⟨t201, A90, H⟩ := H
      replace H : ((spec_ntAll.f k l0).bind fun t202 => ((spec_l1Abs.f (wrap64 (t202 - (wrap64 (2 * t201))))).bind fun t203 => (some t203))) = some r := H
      have A9 := Aside0.mk A90
      clear A90
      replace H := Option.bind_eq_some_iff.mp H
      obtain ⟨t202, A100, H⟩ := H
      replace H : ((spec_l1Abs.f (wrap64 (t202 - (wrap64 (2 * t201))))).bind fun t203 => (some t203)) = some r := H
      have A10 := Aside0.mk A100
      clear A100
      replace H := Option.bind_eq_some_iff.mp H
      obtain ⟨t203, A110, H⟩ := H
      replace H : (some t203) = some r := H
      have A11 := Aside0.mk A110
      clear A110
      obtain rfl := Option.some.inj H
      have p200 : 0 ≤ (0 : Int) := (by omega)
      have q200 : 0 < (l0.length : Int) := of_decide_eq_true (by first | (with_reducible assumption) | assumption)
      obtain ⟨ad200, e200, hx200_0⟩ := Kd.at_string HR0.out 0 p200 q200
      cases e200
      have qi200 : (0 < l0.length) = True := eq_true (by omega)
      (try rw [show ((0 : Int)).toNat = 0 from rfl] at hx200_0)
      (try rw [Addr.add_zero'] at hx200_0)
      replace p200 := eq_true p200
      replace q200 := eq_true q200
      go_enter Tryd.func45, Tryd.ntmps45
      go_wp2_with (first | ((with_reducible refine gate_callee (f := 55) rfl ?_); refine goesL_ (some 20) rfl rfl Tryd.func55 (by kernel_rfl) rfl #[.slice (some ad200) l0.length c0, .int .i64 0, .int .i64 0, .int .i64 ((rdOf ByteArray.empty l0 0).size : Int), .int .i64 a2] rfl (by (try simp only [List.map_toArray, List.map_cons, List.map_nil]); first | done | rfl | (simp only [List.length_drop, List.length_take]; rfl)) ?_; (with_reducible refine (spec_ntSum.calls k _ _ l0 0 0 ((rdOf ByteArray.empty l0 0).size : Int) a2 t201 _ ?side1 ?side2 A9.out).mono ?_); (case side1 => repeat (first | exact HR0.out | (with_reducible refine Kd.C_alloc ?_ _) | (with_reducible refine Kd.C_drewN ?_ _) | (with_reducible refine Kd.C_drew ?_))); (case side2 => exact HC0.out); rintro e w' ⟨rfl, ⟨nd, rfl⟩⟩; refine ⟨_, rfl, ?_⟩) | ((with_reducible refine gate_callee (f := 65) rfl ?_); refine goesL_ (some 22) rfl rfl Tryd.func65 (by kernel_rfl) rfl #[.slice (some ad200) l0.length c0] rfl (by (try simp only [List.map_toArray, List.map_cons, List.map_nil]); first | done | rfl | (simp only [List.length_drop, List.length_take]; rfl)) ?_; (with_reducible refine (spec_ntAll.calls k _ _ l0 t202 _ ?side1 ?side2 A10.out).mono ?_); (case side1 => repeat (first | exact HR0.out | (with_reducible refine Kd.C_alloc ?_ _) | (with_reducible refine Kd.C_drewN ?_ _) | (with_reducible refine Kd.C_drew ?_))); (case side2 => exact HC0.out); rintro e w' ⟨rfl, ⟨nd, rfl⟩⟩; refine ⟨_, rfl, ?_⟩) | ((with_reducible refine gate_callee (f := 64) rfl ?_); refine goesL_ (some 26) rfl rfl Tryd.func64 (by kernel_rfl) rfl #[.int .i64 (wrap64 (t202 - (wrap64 (2 * t201))))] rfl (by (try simp only [List.map_toArray, List.map_cons, List.map_nil]); first | done | rfl | (simp only [List.length_drop, List.length_take]; rfl)) ?_; (with_reducible refine (spec_l1Abs.calls (wrap64 (t202 - (wrap64 (2 * t201)))) t203 _ A11.out).mono ?_); rintro e w' ⟨rfl, ⟨nd, rfl⟩⟩; refine ⟨_, rfl, ?_⟩))
      go_ret
      exact ⟨by first | rfl | (simp; done) | (simp [*]; done), by repeat (first | exact Drawn0.refl _ | apply Drawn0.step)⟩
    · rw [if_neg c8] at H
      exact absurd H (by simp)

end Go.Proofs.YtedpdfmaccoinaaDoor.P
