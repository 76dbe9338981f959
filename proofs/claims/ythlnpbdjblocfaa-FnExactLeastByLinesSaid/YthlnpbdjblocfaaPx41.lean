-- Written by a program of this session (pp.py, over the kit's print): not trusted, Lean checks it.
import Derived.Test.YthlnpbdjblocfaaPx0
import Derived.Test.YthlnpbdjblocfaaPx39
import Derived.Test.YthlnpbdjblocfaaPx40
namespace Go.Proofs.Ythlnpbdjblocfaa.P
open Go.RowKit Go.Proofs.YthlnpbdjblocfaaW.PrintWords Go.Proofs.YthlnpbdjblocfaaW.PrintLast Go.Proofs.YthlnpbdjblocfaaW.PrintMore
attribute [local go_sem] max2_int min2_int max_two min_two max_three min_three max_four min_four   -- for this text's walks alone
set_option linter.unusedVariables false
set_option linter.unusedSimpArgs false

/-! ### spec_LeastByLines: function 21 -/
mutual
def spec_LeastByLines.j0 : Nat → List Int → List Int → Bool → Option (Int × Bool)
  | 0, _, _, _ => none
  | k + 1, x0, x1, x18 => if x18 = true then (some (0, false)) else ((spec_brOrder.f k x0 x1).bind fun t320 => (spec_LeastByLines.l0 k x0 x1 0 1 1 t320 (t320.length : Int) 0))
def spec_LeastByLines.l0 : Nat → List Int → List Int → Int → Int → Int → List (List Int) → Int → Int → Option (Int × Bool)
  | 0, _, _, _, _, _, _, _, _ => none
  | k + 1, x0, x1, x6, x7, x8, x21, x22, x23 => if x23 < x22 then (if 0 ≤ x23 then (if x23 < (x21.length : Int) then (if 0 < ((rd_L1 x21 x23).length : Int) then (if (rd (rd_L1 x21 x23) 0) = 0 then (if 1 < ((rd_L1 x21 x23).length : Int) then (if 0 ≤ (rd (rd_L1 x21 x23) 1) then (if (rd (rd_L1 x21 x23) 1) < (x0.length : Int) then (spec_LeastByLines.l0 k x0 x1 (wrap64 (x6 + (wrap64 ((rd x0 (rd (rd_L1 x21 x23) 1)) * x8)))) (wrap64 (x7 + 1)) x8 x21 x22 (wrap64 (x23 + 1))) else (none)) else (none)) else (none)) else (if 1 < ((rd_L1 x21 x23).length : Int) then (if 0 ≤ (rd (rd_L1 x21 x23) 1) then (if (rd (rd_L1 x21 x23) 1) < (x1.length : Int) then (spec_LeastByLines.l0 k x0 x1 (wrap64 (x6 + (wrap64 ((rd x1 (rd (rd_L1 x21 x23) 1)) * x7)))) x7 (wrap64 (x8 + 1)) x21 x22 (wrap64 (x23 + 1))) else (none)) else (none)) else (none))) else (none)) else (none)) else (none)) else (some (x6, true))
end
def spec_LeastByLines.f (k : Nat) (l0 : List Int) (l1 : List Int) : Option (Int × Bool) := (spec_brLines.f k l0).bind fun t318 => (if t318 = true then ((spec_brLines.f k l1).bind fun t319 => (spec_LeastByLines.j0 k l0 l1 (!t319))) else (spec_LeastByLines.j0 k l0 l1 true))
theorem spec_LeastByLines.mono_l : ∀ k, (∀ y0 y1 y2, LeO (spec_LeastByLines.j0 k y0 y1 y2) (spec_LeastByLines.j0 (k + 1) y0 y1 y2)) ∧ (∀ y0 y1 y2 y3 y4 y5 y6 y7, LeO (spec_LeastByLines.l0 k y0 y1 y2 y3 y4 y5 y6 y7) (spec_LeastByLines.l0 (k + 1) y0 y1 y2 y3 y4 y5 y6 y7))
  | 0 => ⟨fun _ _ _ r h => by simp [spec_LeastByLines.j0] at h, fun _ _ _ _ _ _ _ _ r h => by simp [spec_LeastByLines.l0] at h⟩
  | k + 1 => by
    obtain ⟨ih0, ih1⟩ := spec_LeastByLines.mono_l k
    refine ⟨?_, ?_⟩
    · intro y0 y1 y2
      unfold spec_LeastByLines.j0
      repeat' first
      | (with_reducible exact ih0 _ _ _)
      | (with_reducible exact ih1 _ _ _ _ _ _ _ _)
      | (with_reducible exact spec_brLines.mono _ _)
      | (with_reducible exact spec_brOrder.mono _ _ _)
      | (with_reducible exact LeO.refl _)
      | (with_reducible exact LeO.none _)
      | (with_reducible refine LeO.ite ?_ ?_)
      | (with_reducible refine LeO.bind ?_ (fun _ => ?_))
      | exact ih0 _ _ _
      | exact ih1 _ _ _ _ _ _ _ _
      | exact spec_brLines.mono _ _
      | exact spec_brOrder.mono _ _ _
      | exact LeO.none _
      | refine LeO.ite ?_ ?_
      | refine LeO.bind ?_ (fun _ => ?_)
    · intro y0 y1 y2 y3 y4 y5 y6 y7
      unfold spec_LeastByLines.l0
      repeat' first
      | (with_reducible exact ih0 _ _ _)
      | (with_reducible exact ih1 _ _ _ _ _ _ _ _)
      | (with_reducible exact spec_brLines.mono _ _)
      | (with_reducible exact spec_brOrder.mono _ _ _)
      | (with_reducible exact LeO.refl _)
      | (with_reducible exact LeO.none _)
      | (with_reducible refine LeO.ite ?_ ?_)
      | (with_reducible refine LeO.bind ?_ (fun _ => ?_))
      | exact ih0 _ _ _
      | exact ih1 _ _ _ _ _ _ _ _
      | exact spec_brLines.mono _ _
      | exact spec_brOrder.mono _ _ _
      | exact LeO.none _
      | refine LeO.ite ?_ ?_
      | refine LeO.bind ?_ (fun _ => ?_)
theorem spec_LeastByLines.mono : ∀ a0 a1 k, LeO (spec_LeastByLines.f k a0 a1) (spec_LeastByLines.f (k + 1) a0 a1) := by
  intro a0 a1 k
  obtain ⟨ih0, ih1⟩ := spec_LeastByLines.mono_l k
  unfold spec_LeastByLines.f
  repeat' first
      | (with_reducible exact ih0 _ _ _)
      | (with_reducible exact ih1 _ _ _ _ _ _ _ _)
      | (with_reducible exact spec_brLines.mono _ _)
      | (with_reducible exact spec_brOrder.mono _ _ _)
      | (with_reducible exact LeO.refl _)
      | (with_reducible exact LeO.none _)
      | (with_reducible refine LeO.ite ?_ ?_)
      | (with_reducible refine LeO.bind ?_ (fun _ => ?_))
      | exact ih0 _ _ _
      | exact ih1 _ _ _ _ _ _ _ _
      | exact spec_brLines.mono _ _
      | exact spec_brOrder.mono _ _ _
      | exact LeO.none _
      | refine LeO.ite ?_ ?_
      | refine LeO.bind ?_ (fun _ => ?_)
set_option maxHeartbeats 8000000 in
set_option maxRecDepth 100000 in
theorem spec_LeastByLines.calls (k : Nat) (A0 : Option Addr) (c0 : Nat) (l0 : List Int) (A1 : Option Addr) (c1 : Nat) (l1 : List Int) (r1 : Int) (r2 : Bool) (w : World) (hr0 : Kd.C (Kd.int .i64) w A0 l0.length l0) (hc0 : l0.length ≤ c0) (hr1 : Kd.C (Kd.int .i64) w A1 l1.length l1) (hc1 : l1.length ≤ c1) (h : spec_LeastByLines.f k l0 l1 = some (r1, r2)) :
    Calls Try.prog 21 #[.slice A0 l0.length c0, .slice A1 l1.length c1] w fun e w' => e = .returned (.tuple #[.int .i64 r1, .bool r2]) ∧ Below w.heap.size w w' := by
  have HR0 := Aside0.mk hr0
  have HC0 := Aside0.mk hc0
  clear hr0 hc0
  have HR1 := Aside0.mk hr1
  have HC1 := Aside0.mk hc1
  clear hr1 hc1
  have HB := Aside0.mk (Below.refl w.heap.size w)
  have H : ((spec_brLines.f k l0).bind fun t318 => (if t318 = true then ((spec_brLines.f k l1).bind fun t319 => (spec_LeastByLines.j0 k l0 l1 (!t319))) else (spec_LeastByLines.j0 k l0 l1 true))) = some (r1, r2) := h
  clear h
  have HC3 := Aside0.mk H
  clear H
  go_enter Try.func21, Try.ntmps21
  go_upto_region 1 with (fail)
  go_cut [18] (fun v18 wc => ∃ (kq : Nat) (x18_2 : Bool), v18 = .bool x18_2 ∧ Aside0 (spec_LeastByLines.j0 kq l0 l1 x18_2 = some (r1, r2)) ∧ Aside0 (kq ≤ k) ∧ Aside0 (Below w.heap.size w wc))
  case first =>
    have H := HC3.out
    clear HC3
    replace H := Option.bind_eq_some_iff.mp H
    obtain ⟨t318, A40, H⟩ := H
    replace H : (if t318 = true then ((spec_brLines.f k l1).bind fun t319 => (spec_LeastByLines.j0 k l0 l1 (!t319))) else (spec_LeastByLines.j0 k l0 l1 true)) = some (r1, r2) := H
    have A4 := Aside0.mk A40
    clear A40
    by_cases c5 : t318 = true
    · subst c5
      have H1 : ((spec_brLines.f k l1).bind fun t319 => (spec_LeastByLines.j0 k l0 l1 (!t319))) = some (r1, r2) := by rw [if_pos rfl] at H; exact H
      clear H
      have H := H1
      clear H1
      replace H := Option.bind_eq_some_iff.mp H
      obtain ⟨t319, A60, H⟩ := H
      replace H : (spec_LeastByLines.j0 k l0 l1 (!t319)) = some (r1, r2) := H
      have A6 := Aside0.mk A60
      clear A60
      have H' := Aside0.mk H
      clear H
      go_wp2_with (first | ((with_reducible refine gate_callee (f := 47) rfl ?_); refine goesL_ (some 12) rfl rfl Try.func47 (by kernel_rfl) rfl #[.slice A0 l0.length c0] rfl (by (try simp only [List.map_toArray, List.map_cons, List.map_nil]); first | done | rfl | (simp only [List.length_drop, List.length_take]; rfl)) ?_; (with_reducible refine (spec_brLines.calls k _ _ l0 true _ ?side1 ?side2 A4.out).mono ?_); (case side1 => repeat (first | exact (Kd.C_below HR0.out HB.out) | (with_reducible refine Kd.C_alloc ?_ _) | (with_reducible refine Kd.C_drewN ?_ _) | (with_reducible refine Kd.C_drew ?_))); (case side2 => exact HC0.out); rintro e w' ⟨rfl, ⟨nd, rfl⟩⟩; refine ⟨_, rfl, ?_⟩) | (go_at_call 47; (with_reducible refine (spec_brLines.calls k _ _ l1 t319 _ ?side1 ?side2 A6.out).mono ?_); (case side1 => repeat (first | exact (Kd.C_below HR1.out (by repeat (first | (with_reducible first | exact HB.out | apply below_alloc | apply pw_below_drewN | apply below_drew1) | exact HB.out))) | (with_reducible refine Kd.C_alloc ?_ _) | (with_reducible refine Kd.C_drewN ?_ _) | (with_reducible refine Kd.C_drew ?_))); (case side2 => exact HC1.out); rintro e w' ⟨rfl, ⟨nd, rfl⟩⟩))
      go_meet
      case rel => exact ⟨_, (!t319), (by first | rfl | (simp; done) | (simp [*]; done)), H', ⟨by first | omega | exact Nat.le_refl _⟩, ⟨by repeat (first | (with_reducible first | exact HB.out | apply below_alloc | apply pw_below_drewN | apply below_drew1) | exact HB.out)⟩⟩
    · replace c5 := Bool.eq_false_iff.mpr c5
      subst c5
      have H1 : (spec_LeastByLines.j0 k l0 l1 true) = some (r1, r2) := by rw [if_neg (show ¬ (false = true) by decide)] at H; exact H
      clear H
      have H := H1
      clear H1
      have H' := Aside0.mk H
      clear H
      go_wp2_with (first | ((with_reducible refine gate_callee (f := 47) rfl ?_); refine goesL_ (some 12) rfl rfl Try.func47 (by kernel_rfl) rfl #[.slice A0 l0.length c0] rfl (by (try simp only [List.map_toArray, List.map_cons, List.map_nil]); first | done | rfl | (simp only [List.length_drop, List.length_take]; rfl)) ?_; (with_reducible refine (spec_brLines.calls k _ _ l0 false _ ?side1 ?side2 A4.out).mono ?_); (case side1 => repeat (first | exact (Kd.C_below HR0.out HB.out) | (with_reducible refine Kd.C_alloc ?_ _) | (with_reducible refine Kd.C_drewN ?_ _) | (with_reducible refine Kd.C_drew ?_))); (case side2 => exact HC0.out); rintro e w' ⟨rfl, ⟨nd, rfl⟩⟩; refine ⟨_, rfl, ?_⟩))
      go_meet
      case rel => exact ⟨_, (true), (by first | rfl | (simp; done) | (simp [*]; done)), H', ⟨by first | omega | exact Nat.le_refl _⟩, ⟨by repeat (first | (with_reducible first | exact HB.out | apply below_alloc | apply pw_below_drewN | apply below_drew1) | exact HB.out)⟩⟩
  case rest =>
    clear HC3
    try clear c1
    try clear c2
    try clear p2
    try clear c4
    try clear c5
    obtain ⟨kq, x18_2, rfl, HA, HJ2, HB⟩ := hcut
    cases kq with
    | zero => exact absurd HA.out (by simp [spec_LeastByLines.j0])
    | succ kj2 =>
      have H := HA.out
      clear HA
      simp only [spec_LeastByLines.j0] at H
      by_cases c7 : x18_2 = true
      · subst c7
        have H1 : (some (0, false)) = some (r1, r2) := by rw [if_pos rfl] at H; exact H
        clear H
        have H := H1
        clear H1
        simp only [Option.some.injEq, Prod.mk.injEq] at H
        obtain ⟨rfl, rfl⟩ := H
        go_wp2
        go_ret2
        exact ⟨by first | rfl | (simp [errW_none, errW_some] <;> rfl) | (simp [*, errW_none, errW_some] <;> rfl), by repeat (first | (with_reducible first | exact HB.out | apply below_alloc | apply pw_below_drewN | apply below_drew1) | exact HB.out)⟩
      · replace c7 := Bool.eq_false_iff.mpr c7
        subst c7
        have H1 : ((spec_brOrder.f kj2 l0 l1).bind fun t320 => (spec_LeastByLines.l0 kj2 l0 l1 0 1 1 t320 (t320.length : Int) 0)) = some (r1, r2) := by rw [if_neg (show ¬ (false = true) by decide)] at H; exact H
        clear H
        have H := H1
        clear H1
        replace H := Option.bind_eq_some_iff.mp H
        obtain ⟨t320, A80, H⟩ := H
        replace H : (spec_LeastByLines.l0 kj2 l0 l1 0 1 1 t320 (t320.length : Int) 0) = some (r1, r2) := H
        have A8 := Aside0.mk A80
        clear A80
        have H' := Aside0.mk H
        clear H
        go_wp2_with (first | ((with_reducible refine gate_callee (f := 48) rfl ?_); refine goesL_ (some 21) rfl rfl Try.func48 (by kernel_rfl) rfl #[.slice A0 l0.length c0, .slice A1 l1.length c1] rfl (by (try simp only [List.map_toArray, List.map_cons, List.map_nil]); first | done | rfl | (simp only [List.length_drop, List.length_take]; rfl)) ?_; (with_reducible refine (spec_brOrder.calls kj2 _ _ l0 _ _ l1 t320 _ ?side1 ?side2 ?side3 ?side4 A8.out).mono ?_); (case side1 => repeat (first | exact (Kd.C_below HR0.out HB.out) | (with_reducible refine Kd.C_alloc ?_ _) | (with_reducible refine Kd.C_drewN ?_ _) | (with_reducible refine Kd.C_drew ?_))); (case side2 => exact HC0.out); (case side3 => repeat (first | exact (Kd.C_below HR1.out HB.out) | (with_reducible refine Kd.C_alloc ?_ _) | (with_reducible refine Kd.C_drewN ?_ _) | (with_reducible refine Kd.C_drew ?_))); (case side4 => exact HC1.out); rintro e w9 ⟨v321, rfl, ho0, hb⟩; refine ⟨_, rfl, ?_⟩; have n0_ := Aside0.mk (Kd.S_lower ho0 (below_size (by repeat (first | (with_reducible first | exact HB.out | apply below_alloc | apply pw_below_drewN | apply below_drew1) | exact HB.out)))); have n1_ := Aside0.mk (below_step (by repeat (first | (with_reducible first | exact HB.out | apply below_alloc | apply pw_below_drewN | apply below_drew1) | exact HB.out)) hb); clear HB; have HO322 := n0_; have HB := n1_; clear n0_ n1_; (try clear hb); (try clear hb2); (try clear hk); (try clear hi); (try clear ho0); obtain ⟨Ao10, co10, eo10⟩ := Kd.S_slice HO322.out; subst eo10))
        go_loopg [6, 7, 8, 23] kj2 (fun kq v6 v7 v8 v23 w' => ∃ (x6_2 : Int) (x7_2 : Int) (x8_2 : Int) (x23_2 : Int), v6 = .int .i64 x6_2 ∧ v7 = .int .i64 x7_2 ∧ v8 = .int .i64 x8_2 ∧ v23 = .int .i64 x23_2 ∧ Aside0 (spec_LeastByLines.l0 kq l0 l1 x6_2 x7_2 x8_2 t320 (t320.length : Int) x23_2 = some (r1, r2)) ∧ Aside0 (kq ≤ kj2) ∧ Aside0 (Kd.S (Kd.slice 3 (Kd.int .i64)) 35 w' w.heap.size (fun _ => True) (.slice Ao10 t320.length co10) t320) ∧ Aside0 (Below w.heap.size w w'))
        case atStart => exact ⟨(0), (1), (1), (0), (by first | rfl | (simp; done) | (simp [*]; done)), (by first | rfl | (simp; done) | (simp [*]; done)), (by first | rfl | (simp; done) | (simp [*]; done)), (by first | rfl | (simp; done) | (simp [*]; done)), H', ⟨Nat.le_refl _⟩, ⟨by (with_reducible repeat (first | apply Kd.S_alloc | apply Kd.S_drewN | apply Kd.S_drew)); exact HO322.out⟩, ⟨by repeat (first | (with_reducible first | exact HB.out | apply below_alloc | apply pw_below_drewN | apply below_drew1) | exact HB.out)⟩⟩
        case round =>
          clear H'
          try clear c1
          try clear c2
          try clear p2
          try clear c4
          try clear c5
          try clear c7
          try clear p2
          obtain ⟨x6_2, x7_2, x8_2, x23_2, rfl, rfl, rfl, rfl, HA, HK2, HO_21, HB⟩ := hrel
          cases gk with
          | zero => exact absurd HA.out (by simp [spec_LeastByLines.l0])
          | succ k2 =>
            have H := HA.out
            clear HA
            simp only [spec_LeastByLines.l0] at H
            by_cases c11 : x23_2 < (t320.length : Int)
            · rw [if_pos c11] at H
              have c11b0 : decide (x23_2 < (t320.length : Int)) = true := decide_eq_true c11
              clear c11
              by_cases c12 : 0 ≤ x23_2
              · rw [if_pos c12] at H
                have c12b0 : decide (0 ≤ x23_2) = true := decide_eq_true c12
                clear c12
                by_cases c13 : x23_2 < (t320.length : Int)
                · rw [if_pos c13] at H
                  have c13b0 : decide (x23_2 < (t320.length : Int)) = true := decide_eq_true c13
                  clear c13
                  by_cases c14 : 0 < ((rd_L1 t320 x23_2).length : Int)
                  · rw [if_pos c14] at H
                    have c14b0 : decide (0 < ((rd_L1 t320 x23_2).length : Int)) = true := decide_eq_true c14
                    have c14b1 : decide (0 < (rd_L1 t320 x23_2).length) = true := decide_eq_true (by omega)
                    clear c14
                    by_cases c15 : (rd (rd_L1 t320 x23_2) 0) = 0
                    · rw [if_pos c15] at H
                      have c15b0 : ((rd (rd_L1 t320 x23_2) 0) == 0) = true := beq_iff_eq.mpr c15
                      have c15b1 : ((rd (rd_L1 t320 x23_2) 0) != 0) = false := bne_eq_false_iff_eq.mpr c15
                      clear c15
                      by_cases c16 : 1 < ((rd_L1 t320 x23_2).length : Int)
                      · rw [if_pos c16] at H
                        have c16b0 : decide (1 < ((rd_L1 t320 x23_2).length : Int)) = true := decide_eq_true c16
                        have c16b1 : decide (1 < (rd_L1 t320 x23_2).length) = true := decide_eq_true (by omega)
                        clear c16
                        by_cases c17 : 0 ≤ (rd (rd_L1 t320 x23_2) 1)
                        · rw [if_pos c17] at H
                          have c17b0 : decide (0 ≤ (rd (rd_L1 t320 x23_2) 1)) = true := decide_eq_true c17
                          clear c17
                          by_cases c18 : (rd (rd_L1 t320 x23_2) 1) < (l0.length : Int)
                          · rw [if_pos c18] at H
                            have c18b0 : decide ((rd (rd_L1 t320 x23_2) 1) < (l0.length : Int)) = true := decide_eq_true c18
                            clear c18
                            have H' := Aside0.mk H
                            clear H
                            have p323 : 0 ≤ (x23_2 : Int) := of_decide_eq_true (by first | (with_reducible assumption) | assumption)
                            have q323 : x23_2 < (t320.length : Int) := of_decide_eq_true (by first | (with_reducible assumption) | assumption)
                            obtain ⟨ad323, A323_0, c323_0, e323, hx323_0, hl323_0, hi323_0⟩ := at_L1 (Kd.S_reads' HO_21.out).2.2 x23_2 p323 q323
                            cases e323
                            obtain ⟨ce323, hce323, hMe323, hcc323⟩ := Kd.S_get HO_21.out [] x23_2 p323 (by first | exact q323 | exact of_decide_eq_true (by first | (with_reducible assumption) | assumption) | (have e_ := (Kd.S_reads' HO_21.out).1; omega))
                            obtain ⟨ve323_0, rfl, ge323_0⟩ := hMe323
                            have hv323_0 := hcc323 0 _ rfl
                            rw [Nat.add_zero, show ((Kd.slice 3 (Kd.int .i64))).sz = 1 from rfl, Nat.mul_one] at hv323_0
                            replace hv323_0 := Option.some.inj (hv323_0.symm.trans hx323_0)
                            rw [hv323_0] at ge323_0
                            have HL323_0 := Aside0.mk (show Kd.R (Kd.int .i64) 3 _ _ _ _ (rd_L1 t320 x23_2) from ge323_0)
                            clear hv323_0 ge323_0
                            clear hcc323 hce323
                            have HR323_0 := Aside0.mk hi323_0
                            have HC323_0 := Aside0.mk hl323_0
                            clear hi323_0 hl323_0
                            replace p323 := eq_true p323
                            replace q323 := eq_true q323
                            have p324 : 0 ≤ (0 : Int) := (by omega)
                            have q324 : 0 < ((rd_L1 t320 x23_2).length : Int) := of_decide_eq_true (by first | (with_reducible assumption) | assumption)
                            obtain ⟨ad324, e324, hx324_0⟩ := Kd.at_int (by repeat (first | (with_reducible exact HR323_0.out) | (with_reducible refine Kd.C_alloc ?_ _) | (with_reducible refine Kd.C_drewN ?_ _) | (with_reducible refine Kd.C_drew ?_) | exact HR323_0.out)) 0 p324 q324
                            cases e324
                            have qi324 : (0 < (rd_L1 t320 x23_2).length) = True := eq_true (by omega)
                            (try rw [show ((0 : Int)).toNat = 0 from rfl] at hx324_0)
                            (try rw [Addr.add_zero'] at hx324_0)
                            replace p324 := eq_true p324
                            replace q324 := eq_true q324
                            have p325 : 0 ≤ (1 : Int) := (by omega)
                            have q325 : 1 < ((rd_L1 t320 x23_2).length : Int) := of_decide_eq_true (by first | (with_reducible assumption) | assumption)
                            obtain ⟨ad325, e325, hx325_0⟩ := Kd.at_int (by repeat (first | (with_reducible exact HR323_0.out) | (with_reducible refine Kd.C_alloc ?_ _) | (with_reducible refine Kd.C_drewN ?_ _) | (with_reducible refine Kd.C_drew ?_) | exact HR323_0.out)) 1 p325 q325
                            obtain rfl : ad324 = ad325 := (by injection e325)
                            (try simp only [show (1 : Int).toNat = 1 from rfl, Nat.reduceMul, Nat.reduceEqDiff, Go.Addr.add, ↓reduceIte] at hx325_0)
                            have qi325 : (1 < (rd_L1 t320 x23_2).length) = True := eq_true (by omega)
                            (try rw [show ((1 : Int)).toNat = 1 from rfl] at hx325_0)
                            replace p325 := eq_true p325
                            replace q325 := eq_true q325
                            have p326 : 0 ≤ ((rd (rd_L1 t320 x23_2) 1) : Int) := of_decide_eq_true (by first | (with_reducible assumption) | assumption)
                            have q326 : (rd (rd_L1 t320 x23_2) 1) < (l0.length : Int) := of_decide_eq_true (by first | (with_reducible assumption) | assumption)
                            obtain ⟨ad326, e326, hx326_0⟩ := Kd.at_int HR0.out (rd (rd_L1 t320 x23_2) 1) p326 q326
                            cases e326
                            replace hx326_0 := (HB.out.cell (World.block_lt_of_cell? w _ hx326_0)).trans hx326_0
                            replace p326 := eq_true p326
                            replace q326 := eq_true q326
                            go_wp2
                            go_roundg k2
                            case measure => have := HJ2.out; have := HK2.out; omega
                            case rel => exact ⟨(wrap64 (x6_2 + (wrap64 ((rd l0 (rd (rd_L1 t320 x23_2) 1)) * x8_2)))), (wrap64 (x7_2 + 1)), (x8_2), (wrap64 (x23_2 + 1)), (by first | rfl | (simp; done) | (simp [*]; done)), (by first | rfl | (simp; done) | (simp [*]; done)), (by first | rfl | (simp; done) | (simp [*]; done)), (by first | rfl | (simp; done) | (simp [*]; done)), H', ⟨by have := HJ2.out; have := HK2.out; omega⟩, ⟨by (with_reducible repeat (first | apply Kd.S_alloc | apply Kd.S_drewN | apply Kd.S_drew)); exact HO_21.out⟩, ⟨by repeat (first | (with_reducible first | exact HB.out | apply below_alloc | apply pw_below_drewN | apply below_drew1) | exact HB.out)⟩⟩
                          · rw [if_neg c18] at H
                            exact absurd H (by simp)
                        · rw [if_neg c17] at H
                          exact absurd H (by simp)
                      · rw [if_neg c16] at H
                        exact absurd H (by simp)
                    · rw [if_neg c15] at H
                      have c15b0 : ((rd (rd_L1 t320 x23_2) 0) == 0) = false := beq_eq_false_iff_ne.mpr c15
                      have c15b1 : ((rd (rd_L1 t320 x23_2) 0) != 0) = true := bne_iff_ne.mpr c15
                      by_cases c19 : 1 < ((rd_L1 t320 x23_2).length : Int)
                      · rw [if_pos c19] at H
                        have c19b0 : decide (1 < ((rd_L1 t320 x23_2).length : Int)) = true := decide_eq_true c19
                        have c19b1 : decide (1 < (rd_L1 t320 x23_2).length) = true := decide_eq_true (by omega)
                        clear c19
                        by_cases c20 : 0 ≤ (rd (rd_L1 t320 x23_2) 1)
                        · rw [if_pos c20] at H
                          have c20b0 : decide (0 ≤ (rd (rd_L1 t320 x23_2) 1)) = true := decide_eq_true c20
                          clear c20
                          by_cases c21 : (rd (rd_L1 t320 x23_2) 1) < (l1.length : Int)
                          · rw [if_pos c21] at H
                            have c21b0 : decide ((rd (rd_L1 t320 x23_2) 1) < (l1.length : Int)) = true := decide_eq_true c21
                            clear c21
                            have H' := Aside0.mk H
                            clear H
                            have p323 : 0 ≤ (x23_2 : Int) := of_decide_eq_true (by first | (with_reducible assumption) | assumption)
                            have q323 : x23_2 < (t320.length : Int) := of_decide_eq_true (by first | (with_reducible assumption) | assumption)
                            obtain ⟨ad323, A323_0, c323_0, e323, hx323_0, hl323_0, hi323_0⟩ := at_L1 (Kd.S_reads' HO_21.out).2.2 x23_2 p323 q323
                            cases e323
                            obtain ⟨ce323, hce323, hMe323, hcc323⟩ := Kd.S_get HO_21.out [] x23_2 p323 (by first | exact q323 | exact of_decide_eq_true (by first | (with_reducible assumption) | assumption) | (have e_ := (Kd.S_reads' HO_21.out).1; omega))
                            obtain ⟨ve323_0, rfl, ge323_0⟩ := hMe323
                            have hv323_0 := hcc323 0 _ rfl
                            rw [Nat.add_zero, show ((Kd.slice 3 (Kd.int .i64))).sz = 1 from rfl, Nat.mul_one] at hv323_0
                            replace hv323_0 := Option.some.inj (hv323_0.symm.trans hx323_0)
                            rw [hv323_0] at ge323_0
                            have HL323_0 := Aside0.mk (show Kd.R (Kd.int .i64) 3 _ _ _ _ (rd_L1 t320 x23_2) from ge323_0)
                            clear hv323_0 ge323_0
                            clear hcc323 hce323
                            have HR323_0 := Aside0.mk hi323_0
                            have HC323_0 := Aside0.mk hl323_0
                            clear hi323_0 hl323_0
                            replace p323 := eq_true p323
                            replace q323 := eq_true q323
                            have p324 : 0 ≤ (0 : Int) := (by omega)
                            have q324 : 0 < ((rd_L1 t320 x23_2).length : Int) := of_decide_eq_true (by first | (with_reducible assumption) | assumption)
                            obtain ⟨ad324, e324, hx324_0⟩ := Kd.at_int (by repeat (first | (with_reducible exact HR323_0.out) | (with_reducible refine Kd.C_alloc ?_ _) | (with_reducible refine Kd.C_drewN ?_ _) | (with_reducible refine Kd.C_drew ?_) | exact HR323_0.out)) 0 p324 q324
                            cases e324
                            have qi324 : (0 < (rd_L1 t320 x23_2).length) = True := eq_true (by omega)
                            (try rw [show ((0 : Int)).toNat = 0 from rfl] at hx324_0)
                            (try rw [Addr.add_zero'] at hx324_0)
                            replace p324 := eq_true p324
                            replace q324 := eq_true q324
                            have p327 : 0 ≤ (1 : Int) := (by omega)
                            have q327 : 1 < ((rd_L1 t320 x23_2).length : Int) := of_decide_eq_true (by first | (with_reducible assumption) | assumption)
                            obtain ⟨ad327, e327, hx327_0⟩ := Kd.at_int (by repeat (first | (with_reducible exact HR323_0.out) | (with_reducible refine Kd.C_alloc ?_ _) | (with_reducible refine Kd.C_drewN ?_ _) | (with_reducible refine Kd.C_drew ?_) | exact HR323_0.out)) 1 p327 q327
                            obtain rfl : ad324 = ad327 := (by injection e327)
                            (try simp only [show (1 : Int).toNat = 1 from rfl, Nat.reduceMul, Nat.reduceEqDiff, Go.Addr.add, ↓reduceIte] at hx327_0)
                            have qi327 : (1 < (rd_L1 t320 x23_2).length) = True := eq_true (by omega)
                            (try rw [show ((1 : Int)).toNat = 1 from rfl] at hx327_0)
                            replace p327 := eq_true p327
                            replace q327 := eq_true q327
                            have p328 : 0 ≤ ((rd (rd_L1 t320 x23_2) 1) : Int) := of_decide_eq_true (by first | (with_reducible assumption) | assumption)
                            have q328 : (rd (rd_L1 t320 x23_2) 1) < (l1.length : Int) := of_decide_eq_true (by first | (with_reducible assumption) | assumption)
                            obtain ⟨ad328, e328, hx328_0⟩ := Kd.at_int HR1.out (rd (rd_L1 t320 x23_2) 1) p328 q328
                            cases e328
                            replace hx328_0 := (HB.out.cell (World.block_lt_of_cell? w _ hx328_0)).trans hx328_0
                            replace p328 := eq_true p328
                            replace q328 := eq_true q328
                            go_wp2
                            go_roundg k2
                            case measure => have := HJ2.out; have := HK2.out; omega
                            case rel => exact ⟨(wrap64 (x6_2 + (wrap64 ((rd l1 (rd (rd_L1 t320 x23_2) 1)) * x7_2)))), (x7_2), (wrap64 (x8_2 + 1)), (wrap64 (x23_2 + 1)), (by first | rfl | (simp; done) | (simp [*]; done)), (by first | rfl | (simp; done) | (simp [*]; done)), (by first | rfl | (simp; done) | (simp [*]; done)), (by first | rfl | (simp; done) | (simp [*]; done)), H', ⟨by have := HJ2.out; have := HK2.out; omega⟩, ⟨by (with_reducible repeat (first | apply Kd.S_alloc | apply Kd.S_drewN | apply Kd.S_drew)); exact HO_21.out⟩, ⟨by repeat (first | (with_reducible first | exact HB.out | apply below_alloc | apply pw_below_drewN | apply below_drew1) | exact HB.out)⟩⟩
                          · rw [if_neg c21] at H
                            exact absurd H (by simp)
                        · rw [if_neg c20] at H
                          exact absurd H (by simp)
                      · rw [if_neg c19] at H
                        exact absurd H (by simp)
                  · rw [if_neg c14] at H
                    exact absurd H (by simp)
                · rw [if_neg c13] at H
                  exact absurd H (by simp)
              · rw [if_neg c12] at H
                exact absurd H (by simp)
            · rw [if_neg c11] at H
              have c11b0 : decide (x23_2 < (t320.length : Int)) = false := decide_eq_false c11
              clear c11
              simp only [Option.some.injEq, Prod.mk.injEq] at H
              obtain ⟨rfl, rfl⟩ := H
              go_wp2
              go_ret2
              exact ⟨by first | rfl | (simp [errW_none, errW_some] <;> rfl) | (simp [*, errW_none, errW_some] <;> rfl), by repeat (first | (with_reducible first | exact HB.out | apply below_alloc | apply pw_below_drewN | apply below_drew1) | exact HB.out)⟩

end Go.Proofs.Ythlnpbdjblocfaa.P
