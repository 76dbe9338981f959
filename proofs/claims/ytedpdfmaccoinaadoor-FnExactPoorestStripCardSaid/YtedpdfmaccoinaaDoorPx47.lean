-- Written by a program of this session (pp.py, over the kit's print): not trusted, Lean checks it.
import Derived.Test.YtedpdfmaccoinaaDoorPx0
import Derived.Test.YtedpdfmaccoinaaDoorPx4
import Derived.Test.YtedpdfmaccoinaaDoorPx25
import Derived.Test.YtedpdfmaccoinaaDoorPx45
namespace Go.Proofs.YtedpdfmaccoinaaDoor.P
open Go.RowKit Go.Proofs.YtedpdfmaccoinaaDoorW.PrintWords Go.Proofs.YtedpdfmaccoinaaDoorW.PrintLast Go.Proofs.YtedpdfmaccoinaaDoorW.PrintMore
attribute [local go_sem] max2_int min2_int max_two min_two max_three min_three max_four min_four   -- for this text's walks alone
set_option linter.unusedVariables false
set_option linter.unusedSimpArgs false

/-! ### spec_ntStrip: function 51 -/
mutual
def spec_ntStrip.l0 : Nat → List ByteArray → Int → Int → Int → Int → Option (Int)
  | 0, _, _, _, _, _ => none
  | k + 1, x0, x1, x2, x7, x8 => if 0 < (x0.length : Int) then (if x8 < ((rdOf ByteArray.empty x0 0).size : Int) then ((spec_ntStrip.f k x0 x8 (wrap64 (x2 - 1))).bind fun t385 => (if t385 ≥ 0 then ((spec_ntSum.f k x0 x1 0 x8 (x0.length : Int)).bind fun t386 => ((spec_l1Least.f t385 t386).bind fun t387 => ((spec_l1Most.f x7 t387).bind fun t388 => (spec_ntStrip.l0 k x0 x1 x2 t388 (wrap64 (x8 + 1)))))) else (spec_ntStrip.l0 k x0 x1 x2 x7 (wrap64 (x8 + 1))))) else (some x7)) else (none)
def spec_ntStrip.f : Nat → List ByteArray → Int → Int → Option (Int)
  | 0, _, _, _ => none
  | k + 1, l0, a1, a2 => if 0 < (l0.length : Int) then (if (wrap64 (((rdOf ByteArray.empty l0 0).size : Int) - a1)) < a2 then (some (-1)) else (if a2 = 1 then ((spec_ntSum.f k l0 a1 0 ((rdOf ByteArray.empty l0 0).size : Int) (l0.length : Int)).bind fun t383 => (some t383)) else (spec_ntStrip.l0 k l0 a1 a2 (-1) (wrap64 (a1 + 1))))) else (none)
end
theorem spec_ntStrip.mono_l : ∀ k, (∀ y0 y1 y2, LeO (spec_ntStrip.f k y0 y1 y2) (spec_ntStrip.f (k + 1) y0 y1 y2)) ∧ (∀ y0 y1 y2 y3 y4, LeO (spec_ntStrip.l0 k y0 y1 y2 y3 y4) (spec_ntStrip.l0 (k + 1) y0 y1 y2 y3 y4))
  | 0 => ⟨fun _ _ _ r h => by simp [spec_ntStrip.f] at h, fun _ _ _ _ _ r h => by simp [spec_ntStrip.l0] at h⟩
  | k + 1 => by
    obtain ⟨ih0, ih1⟩ := spec_ntStrip.mono_l k
    refine ⟨?_, ?_⟩
    · intro y0 y1 y2
      unfold spec_ntStrip.f
      repeat' first
      | (with_reducible exact ih0 _ _ _)
      | (with_reducible exact ih1 _ _ _ _ _)
      | (with_reducible exact spec_ntSum.mono _ _ _ _ _ _)
      | (with_reducible exact LeO.refl _)
      | (with_reducible exact LeO.none _)
      | (with_reducible refine LeO.ite ?_ ?_)
      | (with_reducible refine LeO.bind ?_ (fun _ => ?_))
      | exact ih0 _ _ _
      | exact ih1 _ _ _ _ _
      | exact spec_ntSum.mono _ _ _ _ _ _
      | exact LeO.none _
      | refine LeO.ite ?_ ?_
      | refine LeO.bind ?_ (fun _ => ?_)
    · intro y0 y1 y2 y3 y4
      unfold spec_ntStrip.l0
      repeat' first
      | (with_reducible exact ih0 _ _ _)
      | (with_reducible exact ih1 _ _ _ _ _)
      | (with_reducible exact spec_ntSum.mono _ _ _ _ _ _)
      | (with_reducible exact LeO.refl _)
      | (with_reducible exact LeO.none _)
      | (with_reducible refine LeO.ite ?_ ?_)
      | (with_reducible refine LeO.bind ?_ (fun _ => ?_))
      | exact ih0 _ _ _
      | exact ih1 _ _ _ _ _
      | exact spec_ntSum.mono _ _ _ _ _ _
      | exact LeO.none _
      | refine LeO.ite ?_ ?_
      | refine LeO.bind ?_ (fun _ => ?_)
theorem spec_ntStrip.mono : ∀ a0 a1 a2 k, LeO (spec_ntStrip.f k a0 a1 a2) (spec_ntStrip.f (k + 1) a0 a1 a2) := by
  intro a0 a1 a2 k
  obtain ⟨ih0, ih1⟩ := spec_ntStrip.mono_l k
  exact ih0 a0 a1 a2
set_option maxHeartbeats 8000000 in
set_option maxRecDepth 100000 in
theorem spec_ntStrip.calls (k : Nat) : ∀ (A0 : Option Addr) (c0 : Nat) (l0 : List ByteArray) (a1 : Int) (a2 : Int) (r : Int) (w : World) (hr0 : Kd.C Kd.string w A0 l0.length l0) (hc0 : l0.length ≤ c0) (h : spec_ntStrip.f k l0 a1 a2 = some r),
    Calls Tryd.prog 51 #[.slice A0 l0.length c0, .int .i64 a1, .int .i64 a2] w fun e w' => e = .returned (.int .i64 r) ∧ Drawn0 w w' := by
  induction k using Nat.strongRecOn with
  | _ k ih =>
  intro A0 c0 l0 a1 a2 r w hr0 hc0 h
  cases k with
  | zero => exact absurd h (by simp [spec_ntStrip.f])
  | succ k =>
  simp only [spec_ntStrip.f] at h
  have HR0 := Aside0.mk hr0
  have HC0 := Aside0.mk hc0
  clear hr0 hc0
  have H : (if 0 < (l0.length : Int) then (if (wrap64 (((rdOf ByteArray.empty l0 0).size : Int) - a1)) < a2 then (some (-1)) else (if a2 = 1 then ((spec_ntSum.f k l0 a1 0 ((rdOf ByteArray.empty l0 0).size : Int) (l0.length : Int)).bind fun t383 => (some t383)) else (spec_ntStrip.l0 k l0 a1 a2 (-1) (wrap64 (a1 + 1))))) else (none)) = some r := h
  clear h
  by_cases c4 : 0 < (l0.length : Int)
  · rw [if_pos c4] at H
    have c4b0 : decide (0 < (l0.length : Int)) = true := decide_eq_true c4
    have c4b1 : decide (0 < l0.length) = true := decide_eq_true (by omega)
    clear c4
    by_cases c5 : (wrap64 (((rdOf ByteArray.empty l0 0).size : Int) - a1)) < a2
    · rw [if_pos c5] at H
      have c5b0 : decide ((wrap64 (((rdOf ByteArray.empty l0 0).size : Int) - a1)) < a2) = true := decide_eq_true c5
      clear c5
      obtain rfl := Option.some.inj H
      have p381 : 0 ≤ (0 : Int) := (by omega)
      have q381 : 0 < (l0.length : Int) := of_decide_eq_true (by first | (with_reducible assumption) | assumption)
      obtain ⟨ad381, e381, hx381_0⟩ := Kd.at_string HR0.out 0 p381 q381
      cases e381
      have qi381 : (0 < l0.length) = True := eq_true (by omega)
      (try rw [show ((0 : Int)).toNat = 0 from rfl] at hx381_0)
      (try rw [Addr.add_zero'] at hx381_0)
      replace p381 := eq_true p381
      replace q381 := eq_true q381
      go_enter Tryd.func51, Tryd.ntmps51
      go_wp2
      go_ret
      exact ⟨by first | rfl | (simp; done) | (simp [*]; done), by repeat (first | exact Drawn0.refl _ | apply Drawn0.step)⟩
    · rw [if_neg c5] at H
      have c5b0 : decide ((wrap64 (((rdOf ByteArray.empty l0 0).size : Int) - a1)) < a2) = false := decide_eq_false c5
      clear c5
      by_cases c6 : a2 = 1
      · rw [if_pos c6] at H
        have c6b0 : (a2 == 1) = true := beq_iff_eq.mpr c6
        have c6b1 : (a2 != 1) = false := bne_eq_false_iff_eq.mpr c6
        clear c6
        replace H := Option.bind_eq_some_iff.mp H
        obtain ⟨t383, A70, H⟩ := H
        replace H : (some t383) = some r := H
        have A7 := Aside0.mk A70
        clear A70
        obtain rfl := Option.some.inj H
        have p381 : 0 ≤ (0 : Int) := (by omega)
        have q381 : 0 < (l0.length : Int) := of_decide_eq_true (by first | (with_reducible assumption) | assumption)
        obtain ⟨ad381, e381, hx381_0⟩ := Kd.at_string HR0.out 0 p381 q381
        cases e381
        have qi381 : (0 < l0.length) = True := eq_true (by omega)
        (try rw [show ((0 : Int)).toNat = 0 from rfl] at hx381_0)
        (try rw [Addr.add_zero'] at hx381_0)
        replace p381 := eq_true p381
        replace q381 := eq_true q381
        have p382 : 0 ≤ (0 : Int) := (by omega)
        have q382 : 0 < (l0.length : Int) := of_decide_eq_true (by first | (with_reducible assumption) | assumption)
        obtain ⟨ad382, e382, hx382_0⟩ := Kd.at_string HR0.out 0 p382 q382
        obtain rfl : ad381 = ad382 := (by injection e382)
        have qi382 : (0 < l0.length) = True := eq_true (by omega)
        (try rw [show ((0 : Int)).toNat = 0 from rfl] at hx382_0)
        (try rw [Addr.add_zero'] at hx382_0)
        replace p382 := eq_true p382
        replace q382 := eq_true q382
        go_enter Tryd.func51, Tryd.ntmps51
        go_wp2_with (first | ((with_reducible refine gate_callee (f := 55) rfl ?_); refine goesL_ (some 28) rfl rfl Tryd.func55 (by kernel_rfl) rfl #[.slice (some ad381) l0.length c0, .int .i64 a1, .int .i64 0, .int .i64 ((rdOf ByteArray.empty l0 0).size : Int), .int .i64 (l0.length : Int)] rfl (by (try simp only [List.map_toArray, List.map_cons, List.map_nil]); first | done | rfl | (simp only [List.length_drop, List.length_take]; rfl)) ?_; (with_reducible refine (spec_ntSum.calls k _ _ l0 a1 0 ((rdOf ByteArray.empty l0 0).size : Int) (l0.length : Int) t383 _ ?side1 ?side2 A7.out).mono ?_); (case side1 => repeat (first | exact HR0.out | (with_reducible refine Kd.C_alloc ?_ _) | (with_reducible refine Kd.C_drewN ?_ _) | (with_reducible refine Kd.C_drew ?_))); (case side2 => exact HC0.out); rintro e w' ⟨rfl, ⟨nd, rfl⟩⟩; refine ⟨_, rfl, ?_⟩))
        go_ret
        exact ⟨by first | rfl | (simp; done) | (simp [*]; done), by repeat (first | exact Drawn0.refl _ | apply Drawn0.step)⟩
      · rw [if_neg c6] at H
        have c6b0 : (a2 == 1) = false := beq_eq_false_iff_ne.mpr c6
        have c6b1 : (a2 != 1) = true := bne_iff_ne.mpr c6
        have H' := Aside0.mk H
        clear H
        have p381 : 0 ≤ (0 : Int) := (by omega)
        have q381 : 0 < (l0.length : Int) := of_decide_eq_true (by first | (with_reducible assumption) | assumption)
        obtain ⟨ad381, e381, hx381_0⟩ := Kd.at_string HR0.out 0 p381 q381
        cases e381
        have qi381 : (0 < l0.length) = True := eq_true (by omega)
        (try rw [show ((0 : Int)).toNat = 0 from rfl] at hx381_0)
        (try rw [Addr.add_zero'] at hx381_0)
        replace p381 := eq_true p381
        replace q381 := eq_true q381
        go_enter Tryd.func51, Tryd.ntmps51
        go_wp2
        go_loopg [7, 8] k (fun kq v7 v8 w' => ∃ (x7_1 : Int) (x8_1 : Int), v7 = .int .i64 x7_1 ∧ v8 = .int .i64 x8_1 ∧ Aside0 (spec_ntStrip.l0 kq l0 a1 a2 x7_1 x8_1 = some r) ∧ Aside0 (kq ≤ k) ∧ Drawn0 w w')
        case atStart => exact ⟨((-1)), (wrap64 (a1 + 1)), (by first | rfl | (simp; done) | (simp [*]; done)), (by first | rfl | (simp; done) | (simp [*]; done)), H', ⟨Nat.le_refl _⟩, by repeat (first | exact Drawn0.refl _ | apply Drawn0.step)⟩
        case round =>
          clear H'
          try clear p2
          try clear p3
          try clear q3
          try clear hx3
          try clear qi3
          try clear c4
          try clear c4b0
          try clear c4b1
          try clear c5
          try clear c5b0
          try clear c6
          try clear c6b0
          try clear c6b1
          try clear p6
          try clear hx381_0
          try clear hx382_0
          try clear p381
          try clear p382
          try clear q381
          try clear q382
          obtain ⟨x7_1, x8_1, rfl, rfl, HA, HK1, ⟨m1, rfl⟩⟩ := hrel
          cases gk with
          | zero => exact absurd HA.out (by simp [spec_ntStrip.l0])
          | succ k1 =>
            have H := HA.out
            clear HA
            simp only [spec_ntStrip.l0] at H
            by_cases c8 : 0 < (l0.length : Int)
            · rw [if_pos c8] at H
              have c8b0 : decide (0 < (l0.length : Int)) = true := decide_eq_true c8
              have c8b1 : decide (0 < l0.length) = true := decide_eq_true (by omega)
              clear c8
              by_cases c9 : x8_1 < ((rdOf ByteArray.empty l0 0).size : Int)
              · rw [if_pos c9] at H
                have c9b0 : decide (x8_1 < ((rdOf ByteArray.empty l0 0).size : Int)) = true := decide_eq_true c9
                clear c9
                replace H := Option.bind_eq_some_iff.mp H
                obtain ⟨t385, A100, H⟩ := H
                replace H : (if t385 ≥ 0 then ((spec_ntSum.f k1 l0 a1 0 x8_1 (l0.length : Int)).bind fun t386 => ((spec_l1Least.f t385 t386).bind fun t387 => ((spec_l1Most.f x7_1 t387).bind fun t388 => (spec_ntStrip.l0 k1 l0 a1 a2 t388 (wrap64 (x8_1 + 1)))))) else (spec_ntStrip.l0 k1 l0 a1 a2 x7_1 (wrap64 (x8_1 + 1)))) = some r := H
                have A10 := Aside0.mk A100
                clear A100
                by_cases c11 : t385 ≥ 0
                · rw [if_pos c11] at H
                  have c11b0 : decide (0 ≤ t385) = true := decide_eq_true c11
                  clear c11
                  replace H := Option.bind_eq_some_iff.mp H
                  obtain ⟨t386, A120, H⟩ := H
                  replace H : ((spec_l1Least.f t385 t386).bind fun t387 => ((spec_l1Most.f x7_1 t387).bind fun t388 => (spec_ntStrip.l0 k1 l0 a1 a2 t388 (wrap64 (x8_1 + 1))))) = some r := H
                  have A12 := Aside0.mk A120
                  clear A120
                  replace H := Option.bind_eq_some_iff.mp H
                  obtain ⟨t387, A130, H⟩ := H
                  replace H : ((spec_l1Most.f x7_1 t387).bind fun t388 => (spec_ntStrip.l0 k1 l0 a1 a2 t388 (wrap64 (x8_1 + 1)))) = some r := H
                  have A13 := Aside0.mk A130
                  clear A130
                  replace H := Option.bind_eq_some_iff.mp H
                  obtain ⟨t388, A140, H⟩ := H
                  replace H : (spec_ntStrip.l0 k1 l0 a1 a2 t388 (wrap64 (x8_1 + 1))) = some r := H
                  have A14 := Aside0.mk A140
                  clear A140
                  have H' := Aside0.mk H
                  clear H
                  have p384 : 0 ≤ (0 : Int) := (by omega)
                  have q384 : 0 < (l0.length : Int) := of_decide_eq_true (by first | (with_reducible assumption) | assumption)
                  obtain ⟨ad384, e384, hx384_0⟩ := Kd.at_string HR0.out 0 p384 q384
                  obtain rfl : ad381 = ad384 := (by injection e384)
                  have qi384 : (0 < l0.length) = True := eq_true (by omega)
                  (try rw [show ((0 : Int)).toNat = 0 from rfl] at hx384_0)
                  (try rw [Addr.add_zero'] at hx384_0)
                  replace p384 := eq_true p384
                  replace q384 := eq_true q384
                  go_wp2_with (first | ((with_reducible refine gate_callee (f := 51) rfl ?_); refine goesL_ (some 43) rfl rfl Tryd.func51 (by kernel_rfl) rfl #[.slice (some ad381) l0.length c0, .int .i64 x8_1, .int .i64 (wrap64 (a2 - 1))] rfl (by (try simp only [List.map_toArray, List.map_cons, List.map_nil]); first | done | rfl | (simp only [List.length_drop, List.length_take]; rfl)) ?_; (with_reducible refine (ih k1 (by have := HK1.out; omega) _ _ l0 x8_1 (wrap64 (a2 - 1)) t385 _ ?side1 ?side2 A10.out).mono ?_); (case side1 => repeat (first | exact HR0.out | (with_reducible refine Kd.C_alloc ?_ _) | (with_reducible refine Kd.C_drewN ?_ _) | (with_reducible refine Kd.C_drew ?_))); (case side2 => exact HC0.out); rintro e w' ⟨rfl, ⟨nd, rfl⟩⟩; refine ⟨_, rfl, ?_⟩) | ((with_reducible refine gate_callee (f := 55) rfl ?_); refine goesL_ (some 53) rfl rfl Tryd.func55 (by kernel_rfl) rfl #[.slice (some ad381) l0.length c0, .int .i64 a1, .int .i64 0, .int .i64 x8_1, .int .i64 (l0.length : Int)] rfl (by (try simp only [List.map_toArray, List.map_cons, List.map_nil]); first | done | rfl | (simp only [List.length_drop, List.length_take]; rfl)) ?_; (with_reducible refine (spec_ntSum.calls k1 _ _ l0 a1 0 x8_1 (l0.length : Int) t386 _ ?side1 ?side2 A12.out).mono ?_); (case side1 => repeat (first | exact HR0.out | (with_reducible refine Kd.C_alloc ?_ _) | (with_reducible refine Kd.C_drewN ?_ _) | (with_reducible refine Kd.C_drew ?_))); (case side2 => exact HC0.out); rintro e w' ⟨rfl, ⟨nd, rfl⟩⟩; refine ⟨_, rfl, ?_⟩) | ((with_reducible refine gate_callee (f := 66) rfl ?_); refine goesL_ (some 54) rfl rfl Tryd.func66 (by kernel_rfl) rfl #[.int .i64 t385, .int .i64 t386] rfl (by (try simp only [List.map_toArray, List.map_cons, List.map_nil]); first | done | rfl | (simp only [List.length_drop, List.length_take]; rfl)) ?_; (with_reducible refine (spec_l1Least.calls t385 t386 t387 _ A13.out).mono ?_); rintro e w' ⟨rfl, ⟨nd, rfl⟩⟩; refine ⟨_, rfl, ?_⟩) | ((with_reducible refine gate_callee (f := 67) rfl ?_); refine goesL_ (some 55) rfl rfl Tryd.func67 (by kernel_rfl) rfl #[.int .i64 x7_1, .int .i64 t387] rfl (by (try simp only [List.map_toArray, List.map_cons, List.map_nil]); first | done | rfl | (simp only [List.length_drop, List.length_take]; rfl)) ?_; (with_reducible refine (spec_l1Most.calls x7_1 t387 t388 _ A14.out).mono ?_); rintro e w' ⟨rfl, ⟨nd, rfl⟩⟩; refine ⟨_, rfl, ?_⟩))
                  go_roundg k1
                  case measure => have := HK1.out; omega
                  case rel => exact ⟨(t388), (wrap64 (x8_1 + 1)), (by first | rfl | (simp; done) | (simp [*]; done)), (by first | rfl | (simp; done) | (simp [*]; done)), H', ⟨by have := HK1.out; omega⟩, by repeat (first | exact Drawn0.refl _ | apply Drawn0.step)⟩
                · rw [if_neg c11] at H
                  have c11b0 : decide (0 ≤ t385) = false := decide_eq_false c11
                  clear c11
                  have H' := Aside0.mk H
                  clear H
                  have p384 : 0 ≤ (0 : Int) := (by omega)
                  have q384 : 0 < (l0.length : Int) := of_decide_eq_true (by first | (with_reducible assumption) | assumption)
                  obtain ⟨ad384, e384, hx384_0⟩ := Kd.at_string HR0.out 0 p384 q384
                  obtain rfl : ad381 = ad384 := (by injection e384)
                  have qi384 : (0 < l0.length) = True := eq_true (by omega)
                  (try rw [show ((0 : Int)).toNat = 0 from rfl] at hx384_0)
                  (try rw [Addr.add_zero'] at hx384_0)
                  replace p384 := eq_true p384
                  replace q384 := eq_true q384
                  go_wp2_with (first | ((with_reducible refine gate_callee (f := 51) rfl ?_); refine goesL_ (some 43) rfl rfl Tryd.func51 (by kernel_rfl) rfl #[.slice (some ad381) l0.length c0, .int .i64 x8_1, .int .i64 (wrap64 (a2 - 1))] rfl (by (try simp only [List.map_toArray, List.map_cons, List.map_nil]); first | done | rfl | (simp only [List.length_drop, List.length_take]; rfl)) ?_; (with_reducible refine (ih k1 (by have := HK1.out; omega) _ _ l0 x8_1 (wrap64 (a2 - 1)) t385 _ ?side1 ?side2 A10.out).mono ?_); (case side1 => repeat (first | exact HR0.out | (with_reducible refine Kd.C_alloc ?_ _) | (with_reducible refine Kd.C_drewN ?_ _) | (with_reducible refine Kd.C_drew ?_))); (case side2 => exact HC0.out); rintro e w' ⟨rfl, ⟨nd, rfl⟩⟩; refine ⟨_, rfl, ?_⟩))
                  go_roundg k1
                  case measure => have := HK1.out; omega
                  case rel => exact ⟨(x7_1), (wrap64 (x8_1 + 1)), (by first | rfl | (simp; done) | (simp [*]; done)), (by first | rfl | (simp; done) | (simp [*]; done)), H', ⟨by have := HK1.out; omega⟩, by repeat (first | exact Drawn0.refl _ | apply Drawn0.step)⟩
              · rw [if_neg c9] at H
                have c9b0 : decide (x8_1 < ((rdOf ByteArray.empty l0 0).size : Int)) = false := decide_eq_false c9
                clear c9
                obtain rfl := Option.some.inj H
                have p384 : 0 ≤ (0 : Int) := (by omega)
                have q384 : 0 < (l0.length : Int) := of_decide_eq_true (by first | (with_reducible assumption) | assumption)
                obtain ⟨ad384, e384, hx384_0⟩ := Kd.at_string HR0.out 0 p384 q384
                obtain rfl : ad381 = ad384 := (by injection e384)
                have qi384 : (0 < l0.length) = True := eq_true (by omega)
                (try rw [show ((0 : Int)).toNat = 0 from rfl] at hx384_0)
                (try rw [Addr.add_zero'] at hx384_0)
                replace p384 := eq_true p384
                replace q384 := eq_true q384
                go_wp2
                go_ret
                exact ⟨by first | rfl | (simp; done) | (simp [*]; done), by repeat (first | exact Drawn0.refl _ | apply Drawn0.step)⟩
            · rw [if_neg c8] at H
              exact absurd H (by simp)
  · rw [if_neg c4] at H
    exact absurd H (by simp)

end Go.Proofs.YtedpdfmaccoinaaDoor.P
