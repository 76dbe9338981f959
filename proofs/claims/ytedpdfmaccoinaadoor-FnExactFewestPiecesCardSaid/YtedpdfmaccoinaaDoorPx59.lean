-- Written by a program of this session (pp.py, over the kit's print): not trusted, Lean checks it.
import Derived.Test.YtedpdfmaccoinaaDoorPx0
import Derived.Test.YtedpdfmaccoinaaDoorPx4
import Derived.Test.YtedpdfmaccoinaaDoorPx45
namespace Go.Proofs.YtedpdfmaccoinaaDoor.P
open Go.RowKit Go.Proofs.YtedpdfmaccoinaaDoorW.PrintWords Go.Proofs.YtedpdfmaccoinaaDoorW.PrintLast Go.Proofs.YtedpdfmaccoinaaDoorW.PrintMore
attribute [local go_sem] max2_int min2_int max_two min_two max_three min_three max_four min_four   -- for this text's walks alone
set_option linter.unusedVariables false
set_option linter.unusedSimpArgs false

/-! ### spec_ntFew: function 59 -/
mutual
def spec_ntFew.j0 : Nat → List ByteArray → Int → Int → Int → Int → Int → List Int → Int → Int → Option (Int × List Int)
  | 0, _, _, _, _, _, _, _, _, _ => none
  | k + 1, x0, x1, x2, x3, x4, x5, x6, x15, x16 => spec_ntFew.l0 k x0 x1 x2 x3 x4 x5 x6 x15 x16 (wrap64 (x1 + 1))
def spec_ntFew.l0 : Nat → List ByteArray → Int → Int → Int → Int → Int → List Int → Int → Int → Int → Option (Int × List Int)
  | 0, _, _, _, _, _, _, _, _, _, _ => none
  | k + 1, x0, x1, x2, x3, x4, x5, x6, x15, x16, x17 => if x17 < x3 then (spec_ntFew.j2 k x0 x1 x2 x3 x4 x5 x6 x15 x16 x17 (decide (x16 > 1))) else (spec_ntFew.j2 k x0 x1 x2 x3 x4 x5 x6 x15 x16 x17 false)
def spec_ntFew.j2 : Nat → List ByteArray → Int → Int → Int → Int → Int → List Int → Int → Int → Int → Bool → Option (Int × List Int)
  | 0, _, _, _, _, _, _, _, _, _, _, _ => none
  | k + 1, x0, x1, x2, x3, x4, x5, x6, x15, x16, x17, x61 => if x61 = true then ((spec_ntFew.f k x0 x1 x2 x17 x4 x5 x6).bind fun bt518 => ((spec_ntFew.f k x0 x17 x2 x3 x4 x5 bt518.2).bind fun bt520 => ((spec_l1Least.f x16 (wrap64 (bt518.1 + bt520.1))).bind fun t522 => (spec_ntFew.l0 k x0 x1 x2 x3 x4 x5 bt520.2 x15 t522 (wrap64 (x17 + 1)))))) else (spec_ntFew.l1 k x0 x1 x2 x3 x4 x5 x6 x15 x16 (wrap64 (x2 + 1)))
def spec_ntFew.l1 : Nat → List ByteArray → Int → Int → Int → Int → Int → List Int → Int → Int → Int → Option (Int × List Int)
  | 0, _, _, _, _, _, _, _, _, _, _ => none
  | k + 1, x0, x1, x2, x3, x4, x5, x6, x15, x16, x18 => if x18 < x4 then (spec_ntFew.j4 k x0 x1 x2 x3 x4 x5 x6 x15 x16 x18 (decide (x16 > 1))) else (spec_ntFew.j4 k x0 x1 x2 x3 x4 x5 x6 x15 x16 x18 false)
def spec_ntFew.j4 : Nat → List ByteArray → Int → Int → Int → Int → Int → List Int → Int → Int → Int → Bool → Option (Int × List Int)
  | 0, _, _, _, _, _, _, _, _, _, _, _ => none
  | k + 1, x0, x1, x2, x3, x4, x5, x6, x15, x16, x18, x91 => if x91 = true then ((spec_ntFew.f k x0 x1 x2 x3 x18 x5 x6).bind fun bt523 => ((spec_ntFew.f k x0 x1 x18 x3 x4 x5 bt523.2).bind fun bt525 => ((spec_l1Least.f x16 (wrap64 (bt523.1 + bt525.1))).bind fun t527 => (spec_ntFew.l1 k x0 x1 x2 x3 x4 x5 bt525.2 x15 t527 (wrap64 (x18 + 1)))))) else (if 0 ≤ x15 then (if x15 < (x6.length : Int) then (some (x16, (x6.set (x15 : Int).toNat x16))) else (none)) else (none))
def spec_ntFew.f : Nat → List ByteArray → Int → Int → Int → Int → Int → List Int → Option (Int × List Int)
  | 0, _, _, _, _, _, _, _ => none
  | k + 1, l0, a1, a2, a3, a4, a5, l6 => if 0 ≤ (wrap64 ((wrap64 ((wrap64 ((wrap64 ((wrap64 ((wrap64 (a1 * 9)) + a2)) * 9)) + a3)) * 9)) + a4)) then (if (wrap64 ((wrap64 ((wrap64 ((wrap64 ((wrap64 ((wrap64 (a1 * 9)) + a2)) * 9)) + a3)) * 9)) + a4)) < (l6.length : Int) then (if (rd l6 (wrap64 ((wrap64 ((wrap64 ((wrap64 ((wrap64 ((wrap64 (a1 * 9)) + a2)) * 9)) + a3)) * 9)) + a4))) > 0 then (some (rd l6 (wrap64 ((wrap64 ((wrap64 ((wrap64 ((wrap64 ((wrap64 (a1 * 9)) + a2)) * 9)) + a3)) * 9)) + a4)), l6)) else ((spec_ntSum.f k l0 a1 a2 a3 a4).bind fun t517 => (if t517 ≤ a5 then (spec_ntFew.j0 k l0 a1 a2 a3 a4 a5 l6 (wrap64 ((wrap64 ((wrap64 ((wrap64 ((wrap64 ((wrap64 (a1 * 9)) + a2)) * 9)) + a3)) * 9)) + a4)) 1) else (spec_ntFew.j0 k l0 a1 a2 a3 a4 a5 l6 (wrap64 ((wrap64 ((wrap64 ((wrap64 ((wrap64 ((wrap64 (a1 * 9)) + a2)) * 9)) + a3)) * 9)) + a4)) (wrap64 ((wrap64 (a3 - a1)) * (wrap64 (a4 - a2)))))))) else (none)) else (none)
end
theorem spec_ntFew.mono_l : ∀ k, (∀ y0 y1 y2 y3 y4 y5 y6, LeO (spec_ntFew.f k y0 y1 y2 y3 y4 y5 y6) (spec_ntFew.f (k + 1) y0 y1 y2 y3 y4 y5 y6)) ∧ (∀ y0 y1 y2 y3 y4 y5 y6 y7 y8, LeO (spec_ntFew.j0 k y0 y1 y2 y3 y4 y5 y6 y7 y8) (spec_ntFew.j0 (k + 1) y0 y1 y2 y3 y4 y5 y6 y7 y8)) ∧ (∀ y0 y1 y2 y3 y4 y5 y6 y7 y8 y9, LeO (spec_ntFew.l0 k y0 y1 y2 y3 y4 y5 y6 y7 y8 y9) (spec_ntFew.l0 (k + 1) y0 y1 y2 y3 y4 y5 y6 y7 y8 y9)) ∧ (∀ y0 y1 y2 y3 y4 y5 y6 y7 y8 y9 y10, LeO (spec_ntFew.j2 k y0 y1 y2 y3 y4 y5 y6 y7 y8 y9 y10) (spec_ntFew.j2 (k + 1) y0 y1 y2 y3 y4 y5 y6 y7 y8 y9 y10)) ∧ (∀ y0 y1 y2 y3 y4 y5 y6 y7 y8 y9, LeO (spec_ntFew.l1 k y0 y1 y2 y3 y4 y5 y6 y7 y8 y9) (spec_ntFew.l1 (k + 1) y0 y1 y2 y3 y4 y5 y6 y7 y8 y9)) ∧ (∀ y0 y1 y2 y3 y4 y5 y6 y7 y8 y9 y10, LeO (spec_ntFew.j4 k y0 y1 y2 y3 y4 y5 y6 y7 y8 y9 y10) (spec_ntFew.j4 (k + 1) y0 y1 y2 y3 y4 y5 y6 y7 y8 y9 y10))
  | 0 => ⟨fun _ _ _ _ _ _ _ r h => by simp [spec_ntFew.f] at h, fun _ _ _ _ _ _ _ _ _ r h => by simp [spec_ntFew.j0] at h, fun _ _ _ _ _ _ _ _ _ _ r h => by simp [spec_ntFew.l0] at h, fun _ _ _ _ _ _ _ _ _ _ _ r h => by simp [spec_ntFew.j2] at h, fun _ _ _ _ _ _ _ _ _ _ r h => by simp [spec_ntFew.l1] at h, fun _ _ _ _ _ _ _ _ _ _ _ r h => by simp [spec_ntFew.j4] at h⟩
  | k + 1 => by
    obtain ⟨ih0, ih1, ih2, ih3, ih4, ih5⟩ := spec_ntFew.mono_l k
    refine ⟨?_, ?_, ?_, ?_, ?_, ?_⟩
    · intro y0 y1 y2 y3 y4 y5 y6
      unfold spec_ntFew.f
      repeat' first
      | (with_reducible exact ih0 _ _ _ _ _ _ _)
      | (with_reducible exact ih1 _ _ _ _ _ _ _ _ _)
      | (with_reducible exact ih2 _ _ _ _ _ _ _ _ _ _)
      | (with_reducible exact ih3 _ _ _ _ _ _ _ _ _ _ _)
      | (with_reducible exact ih4 _ _ _ _ _ _ _ _ _ _)
      | (with_reducible exact ih5 _ _ _ _ _ _ _ _ _ _ _)
      | (with_reducible exact spec_ntSum.mono _ _ _ _ _ _)
      | (with_reducible exact LeO.refl _)
      | (with_reducible exact LeO.none _)
      | (with_reducible refine LeO.ite ?_ ?_)
      | (with_reducible refine LeO.bind ?_ (fun _ => ?_))
      | exact ih0 _ _ _ _ _ _ _
      | exact ih1 _ _ _ _ _ _ _ _ _
      | exact ih2 _ _ _ _ _ _ _ _ _ _
      | exact ih3 _ _ _ _ _ _ _ _ _ _ _
      | exact ih4 _ _ _ _ _ _ _ _ _ _
      | exact ih5 _ _ _ _ _ _ _ _ _ _ _
      | exact spec_ntSum.mono _ _ _ _ _ _
      | exact LeO.none _
      | refine LeO.ite ?_ ?_
      | refine LeO.bind ?_ (fun _ => ?_)
    · intro y0 y1 y2 y3 y4 y5 y6 y7 y8
      unfold spec_ntFew.j0
      repeat' first
      | (with_reducible exact ih0 _ _ _ _ _ _ _)
      | (with_reducible exact ih1 _ _ _ _ _ _ _ _ _)
      | (with_reducible exact ih2 _ _ _ _ _ _ _ _ _ _)
      | (with_reducible exact ih3 _ _ _ _ _ _ _ _ _ _ _)
      | (with_reducible exact ih4 _ _ _ _ _ _ _ _ _ _)
      | (with_reducible exact ih5 _ _ _ _ _ _ _ _ _ _ _)
      | (with_reducible exact spec_ntSum.mono _ _ _ _ _ _)
      | (with_reducible exact LeO.refl _)
      | (with_reducible exact LeO.none _)
      | (with_reducible refine LeO.ite ?_ ?_)
      | (with_reducible refine LeO.bind ?_ (fun _ => ?_))
      | exact ih0 _ _ _ _ _ _ _
      | exact ih1 _ _ _ _ _ _ _ _ _
      | exact ih2 _ _ _ _ _ _ _ _ _ _
      | exact ih3 _ _ _ _ _ _ _ _ _ _ _
      | exact ih4 _ _ _ _ _ _ _ _ _ _
      | exact ih5 _ _ _ _ _ _ _ _ _ _ _
      | exact spec_ntSum.mono _ _ _ _ _ _
      | exact LeO.none _
      | refine LeO.ite ?_ ?_
      | refine LeO.bind ?_ (fun _ => ?_)
    · intro y0 y1 y2 y3 y4 y5 y6 y7 y8 y9
      unfold spec_ntFew.l0
      repeat' first
      | (with_reducible exact ih0 _ _ _ _ _ _ _)
      | (with_reducible exact ih1 _ _ _ _ _ _ _ _ _)
      | (with_reducible exact ih2 _ _ _ _ _ _ _ _ _ _)
      | (with_reducible exact ih3 _ _ _ _ _ _ _ _ _ _ _)
      | (with_reducible exact ih4 _ _ _ _ _ _ _ _ _ _)
      | (with_reducible exact ih5 _ _ _ _ _ _ _ _ _ _ _)
      | (with_reducible exact spec_ntSum.mono _ _ _ _ _ _)
      | (with_reducible exact LeO.refl _)
      | (with_reducible exact LeO.none _)
      | (with_reducible refine LeO.ite ?_ ?_)
      | (with_reducible refine LeO.bind ?_ (fun _ => ?_))
      | exact ih0 _ _ _ _ _ _ _
      | exact ih1 _ _ _ _ _ _ _ _ _
      | exact ih2 _ _ _ _ _ _ _ _ _ _
      | exact ih3 _ _ _ _ _ _ _ _ _ _ _
      | exact ih4 _ _ _ _ _ _ _ _ _ _
      | exact ih5 _ _ _ _ _ _ _ _ _ _ _
      | exact spec_ntSum.mono _ _ _ _ _ _
      | exact LeO.none _
      | refine LeO.ite ?_ ?_
      | refine LeO.bind ?_ (fun _ => ?_)
    · intro y0 y1 y2 y3 y4 y5 y6 y7 y8 y9 y10
      unfold spec_ntFew.j2
      repeat' first
      | (with_reducible exact ih0 _ _ _ _ _ _ _)
      | (with_reducible exact ih1 _ _ _ _ _ _ _ _ _)
      | (with_reducible exact ih2 _ _ _ _ _ _ _ _ _ _)
      | (with_reducible exact ih3 _ _ _ _ _ _ _ _ _ _ _)
      | (with_reducible exact ih4 _ _ _ _ _ _ _ _ _ _)
      | (with_reducible exact ih5 _ _ _ _ _ _ _ _ _ _ _)
      | (with_reducible exact spec_ntSum.mono _ _ _ _ _ _)
      | (with_reducible exact LeO.refl _)
      | (with_reducible exact LeO.none _)
      | (with_reducible refine LeO.ite ?_ ?_)
      | (with_reducible refine LeO.bind ?_ (fun _ => ?_))
      | exact ih0 _ _ _ _ _ _ _
      | exact ih1 _ _ _ _ _ _ _ _ _
      | exact ih2 _ _ _ _ _ _ _ _ _ _
      | exact ih3 _ _ _ _ _ _ _ _ _ _ _
      | exact ih4 _ _ _ _ _ _ _ _ _ _
      | exact ih5 _ _ _ _ _ _ _ _ _ _ _
      | exact spec_ntSum.mono _ _ _ _ _ _
      | exact LeO.none _
      | refine LeO.ite ?_ ?_
      | refine LeO.bind ?_ (fun _ => ?_)
    · intro y0 y1 y2 y3 y4 y5 y6 y7 y8 y9
      unfold spec_ntFew.l1
      repeat' first
      | (with_reducible exact ih0 _ _ _ _ _ _ _)
      | (with_reducible exact ih1 _ _ _ _ _ _ _ _ _)
      | (with_reducible exact ih2 _ _ _ _ _ _ _ _ _ _)
      | (with_reducible exact ih3 _ _ _ _ _ _ _ _ _ _ _)
      | (with_reducible exact ih4 _ _ _ _ _ _ _ _ _ _)
      | (with_reducible exact ih5 _ _ _ _ _ _ _ _ _ _ _)
      | (with_reducible exact spec_ntSum.mono _ _ _ _ _ _)
      | (with_reducible exact LeO.refl _)
      | (with_reducible exact LeO.none _)
      | (with_reducible refine LeO.ite ?_ ?_)
      | (with_reducible refine LeO.bind ?_ (fun _ => ?_))
      | exact ih0 _ _ _ _ _ _ _
      | exact ih1 _ _ _ _ _ _ _ _ _
      | exact ih2 _ _ _ _ _ _ _ _ _ _
      | exact ih3 _ _ _ _ _ _ _ _ _ _ _
      | exact ih4 _ _ _ _ _ _ _ _ _ _
      | exact ih5 _ _ _ _ _ _ _ _ _ _ _
      | exact spec_ntSum.mono _ _ _ _ _ _
      | exact LeO.none _
      | refine LeO.ite ?_ ?_
      | refine LeO.bind ?_ (fun _ => ?_)
    · intro y0 y1 y2 y3 y4 y5 y6 y7 y8 y9 y10
      unfold spec_ntFew.j4
      repeat' first
      | (with_reducible exact ih0 _ _ _ _ _ _ _)
      | (with_reducible exact ih1 _ _ _ _ _ _ _ _ _)
      | (with_reducible exact ih2 _ _ _ _ _ _ _ _ _ _)
      | (with_reducible exact ih3 _ _ _ _ _ _ _ _ _ _ _)
      | (with_reducible exact ih4 _ _ _ _ _ _ _ _ _ _)
      | (with_reducible exact ih5 _ _ _ _ _ _ _ _ _ _ _)
      | (with_reducible exact spec_ntSum.mono _ _ _ _ _ _)
      | (with_reducible exact LeO.refl _)
      | (with_reducible exact LeO.none _)
      | (with_reducible refine LeO.ite ?_ ?_)
      | (with_reducible refine LeO.bind ?_ (fun _ => ?_))
      | exact ih0 _ _ _ _ _ _ _
      | exact ih1 _ _ _ _ _ _ _ _ _
      | exact ih2 _ _ _ _ _ _ _ _ _ _
      | exact ih3 _ _ _ _ _ _ _ _ _ _ _
      | exact ih4 _ _ _ _ _ _ _ _ _ _
      | exact ih5 _ _ _ _ _ _ _ _ _ _ _
      | exact spec_ntSum.mono _ _ _ _ _ _
      | exact LeO.none _
      | refine LeO.ite ?_ ?_
      | refine LeO.bind ?_ (fun _ => ?_)
theorem spec_ntFew.mono : ∀ a0 a1 a2 a3 a4 a5 a6 k, LeO (spec_ntFew.f k a0 a1 a2 a3 a4 a5 a6) (spec_ntFew.f (k + 1) a0 a1 a2 a3 a4 a5 a6) := by
  intro a0 a1 a2 a3 a4 a5 a6 k
  obtain ⟨ih0, ih1, ih2, ih3, ih4, ih5⟩ := spec_ntFew.mono_l k
  exact ih0 a0 a1 a2 a3 a4 a5 a6
set_option maxHeartbeats 8000000 in
set_option maxRecDepth 100000 in
theorem spec_ntFew.calls (k : Nat) : ∀ (A0 : Option Addr) (c0 : Nat) (l0 : List ByteArray) (a1 : Int) (a2 : Int) (a3 : Int) (a4 : Int) (a5 : Int) (P6_ : Nat → Prop) (u9000_ : Value) (l6 : List Int) (r1 : Int) (r2 : List Int) (w0 w : World) (hB : Below w0.heap.size w0 w) (hr0 : ∀ W_, Kept w W_ (fun k_ => P6_ k_) → Kd.C Kd.string W_ A0 l0.length l0) (hc0 : l0.length ≤ c0) (ho6 : Kd.R (Kd.int .i64) 3 w w0.heap.size P6_ u9000_ l6) (h : spec_ntFew.f k l0 a1 a2 a3 a4 a5 l6 = some (r1, r2)),
    Calls Tryd.prog 59 #[.slice A0 l0.length c0, .int .i64 a1, .int .i64 a2, .int .i64 a3, .int .i64 a4, .int .i64 a5, u9000_] w fun e w' => e = .returned (.int .i64 r1) ∧ Kd.R (Kd.int .i64) 3 w' w0.heap.size (fun k_ => (P6_ k_ ∨ w.heap.size ≤ k_)) u9000_ r2 ∧ Below w0.heap.size w0 w' ∧ Kept w w' (fun k_ => P6_ k_) := by
  induction k using Nat.strongRecOn with
  | _ k ih =>
  intro A0 c0 l0 a1 a2 a3 a4 a5 P6_ u9000_ l6 r1 r2 w0 w hB hr0 hc0 ho6 h
  cases k with
  | zero => exact absurd h (by simp [spec_ntFew.f])
  | succ k =>
  simp only [spec_ntFew.f] at h
  have HR0 := Aside0.mk hr0
  have HC0 := Aside0.mk hc0
  clear hr0 hc0
  have HO6 := Aside0.mk (show Kd.R (Kd.int .i64) 3 w w0.heap.size (fun k_ => (P6_ k_ ∨ w.heap.size ≤ k_)) u9000_ l6 from Kd.R_mono ho6 (fun k_ hk => (.inl hk)))
  have HK := Aside0.mk (Kept.refl w (fun k_ => P6_ k_))
  have HW0 := Aside0.mk hB.size
  have HB := Aside0.mk hB
  clear hB
  have H : (if 0 ≤ (wrap64 ((wrap64 ((wrap64 ((wrap64 ((wrap64 ((wrap64 (a1 * 9)) + a2)) * 9)) + a3)) * 9)) + a4)) then (if (wrap64 ((wrap64 ((wrap64 ((wrap64 ((wrap64 ((wrap64 (a1 * 9)) + a2)) * 9)) + a3)) * 9)) + a4)) < (l6.length : Int) then (if (rd l6 (wrap64 ((wrap64 ((wrap64 ((wrap64 ((wrap64 ((wrap64 (a1 * 9)) + a2)) * 9)) + a3)) * 9)) + a4))) > 0 then (some (rd l6 (wrap64 ((wrap64 ((wrap64 ((wrap64 ((wrap64 ((wrap64 (a1 * 9)) + a2)) * 9)) + a3)) * 9)) + a4)), l6)) else ((spec_ntSum.f k l0 a1 a2 a3 a4).bind fun t517 => (if t517 ≤ a5 then (spec_ntFew.j0 k l0 a1 a2 a3 a4 a5 l6 (wrap64 ((wrap64 ((wrap64 ((wrap64 ((wrap64 ((wrap64 (a1 * 9)) + a2)) * 9)) + a3)) * 9)) + a4)) 1) else (spec_ntFew.j0 k l0 a1 a2 a3 a4 a5 l6 (wrap64 ((wrap64 ((wrap64 ((wrap64 ((wrap64 ((wrap64 (a1 * 9)) + a2)) * 9)) + a3)) * 9)) + a4)) (wrap64 ((wrap64 (a3 - a1)) * (wrap64 (a4 - a2)))))))) else (none)) else (none)) = some (r1, r2) := h
  clear h
  obtain ⟨ji8, hji8⟩ : ∃ j_ : Int, (wrap64 ((wrap64 ((wrap64 ((wrap64 ((wrap64 ((wrap64 (a1 * 9)) + a2)) * 9)) + a3)) * 9)) + a4)) = j_ := ⟨_, rfl⟩
  replace H : (if 0 ≤ (ji8) then (if (ji8) < (l6.length : Int) then (if (rd l6 (ji8)) > 0 then (some (rd l6 (ji8), l6)) else ((spec_ntSum.f k l0 a1 a2 a3 a4).bind fun t517 => (if t517 ≤ a5 then (spec_ntFew.j0 k l0 a1 a2 a3 a4 a5 l6 ji8 1) else (spec_ntFew.j0 k l0 a1 a2 a3 a4 a5 l6 ji8 (wrap64 ((wrap64 (a3 - a1)) * (wrap64 (a4 - a2)))))))) else (none)) else (none)) = some (r1, r2) := by first | (rw [hji8] at H; exact H) | (simp only [hji8] at H ⊢; exact H)
  have hji8w : (IntKind.i64.wrap ((wrap64 ((wrap64 ((wrap64 ((wrap64 ((wrap64 (a1 * 9)) + a2)) * 9)) + a3)) * 9)) + a4)) = ji8 := (i64_w _).trans hji8
  by_cases c9 : 0 ≤ (ji8)
  · rw [if_pos c9] at H
    have c9b0 : decide (0 ≤ (ji8)) = true := decide_eq_true c9
    clear c9
    by_cases c10 : (ji8) < (l6.length : Int)
    · rw [if_pos c10] at H
      have c10b0 : decide ((ji8) < (l6.length : Int)) = true := decide_eq_true c10
      clear c10
      by_cases c11 : (rd l6 (ji8)) > 0
      · rw [if_pos c11] at H
        have c11b0 : decide (0 < (rd l6 (ji8))) = true := decide_eq_true c11
        clear c11
        simp only [Option.some.injEq, Prod.mk.injEq] at H
        obtain ⟨rfl, rfl⟩ := H
        obtain ⟨Ao12, co12, eo12⟩ := Kd.R_slice HO6.out
        subst eo12
        have p515 : 0 ≤ ((ji8) : Int) := of_decide_eq_true (by first | (with_reducible assumption) | assumption)
        have q515 : (ji8) < (l6.length : Int) := of_decide_eq_true (by first | (with_reducible assumption) | assumption)
        obtain ⟨ad515, e515, hx515_0⟩ := Kd.at_int (Kd.R_reads' HO6.out).2.2 (ji8) p515 q515
        cases e515
        replace p515 := eq_true p515
        replace q515 := eq_true q515
        have p516 : 0 ≤ ((ji8) : Int) := of_decide_eq_true (by first | (with_reducible assumption) | assumption)
        have q516 : (ji8) < (l6.length : Int) := of_decide_eq_true (by first | (with_reducible assumption) | assumption)
        obtain ⟨ad516, e516, hx516_0⟩ := Kd.at_int (Kd.R_reads' HO6.out).2.2 (ji8) p516 q516
        obtain rfl : ad515 = ad516 := (by injection e516)
        replace p516 := eq_true p516
        replace q516 := eq_true q516
        go_enter Tryd.func59, Tryd.ntmps59
        go_wp2
        go_ret
        exact ⟨by first | rfl | (simp [errW_none, errW_some] <;> rfl) | (simp only [← hji8]; first | rfl | (simp [errW_none, errW_some] <;> rfl)) | (simp [*, errW_none, errW_some] <;> rfl), by (with_reducible repeat (first | apply Kd.R_alloc | apply Kd.R_drewN | apply Kd.R_drew)); exact HO6.out, by repeat (first | (with_reducible first | exact HB.out | apply below_alloc | apply pw_below_drewN | apply below_drew1) | exact HB.out), by repeat (first | (with_reducible first | exact HK.out | apply Kept.alloc | apply Kept.drewN | apply Kept.drew) | exact HK.out)⟩
      · rw [if_neg c11] at H
        have c11b0 : decide (0 < (rd l6 (ji8))) = false := decide_eq_false c11
        clear c11
        replace H := Option.bind_eq_some_iff.mp H
        obtain ⟨t517, A130, H⟩ := H
        replace H : (if t517 ≤ a5 then (spec_ntFew.j0 k l0 a1 a2 a3 a4 a5 l6 ji8 1) else (spec_ntFew.j0 k l0 a1 a2 a3 a4 a5 l6 ji8 (wrap64 ((wrap64 (a3 - a1)) * (wrap64 (a4 - a2)))))) = some (r1, r2) := H
        have A13 := Aside0.mk A130
        clear A130
        have HC14 := Aside0.mk H
        clear H
        obtain ⟨Ao15, co15, eo15⟩ := Kd.R_slice HO6.out
        subst eo15
        have p515 : 0 ≤ ((ji8) : Int) := of_decide_eq_true (by first | (with_reducible assumption) | assumption)
        have q515 : (ji8) < (l6.length : Int) := of_decide_eq_true (by first | (with_reducible assumption) | assumption)
        obtain ⟨ad515, e515, hx515_0⟩ := Kd.at_int (Kd.R_reads' HO6.out).2.2 (ji8) p515 q515
        cases e515
        replace p515 := eq_true p515
        replace q515 := eq_true q515
        go_enter Tryd.func59, Tryd.ntmps59
        go_upto_if 52 with (first | ((with_reducible refine gate_callee (f := 55) rfl ?_); refine goesL_ (some 50) rfl rfl Tryd.func55 (by kernel_rfl) rfl #[.slice A0 l0.length c0, .int .i64 a1, .int .i64 a2, .int .i64 a3, .int .i64 a4] rfl (by (try simp only [List.map_toArray, List.map_cons, List.map_nil]); first | done | rfl | (simp only [List.length_drop, List.length_take]; rfl)) ?_; (with_reducible refine (spec_ntSum.calls k _ _ l0 a1 a2 a3 a4 t517 _ ?side1 ?side2 A13.out).mono ?_); (case side1 => exact Kd.C_kept_now HR0.out (by repeat (first | (with_reducible first | exact HK.out | apply Kept.alloc | apply Kept.drewN | apply Kept.drew) | exact HK.out))); (case side2 => exact HC0.out); rintro e w' ⟨rfl, ⟨nd, rfl⟩⟩; refine ⟨_, rfl, ?_⟩))
        (try simp only [Act.put, List.setIfInBounds_toArray, List.set_cons_zero, List.set_cons_succ])
        go_cut [16] (fun v16 wc => ∃ (kq : Nat) (x16_13 : Int), v16 = .int .i64 x16_13 ∧ Aside0 (spec_ntFew.j0 kq l0 a1 a2 a3 a4 a5 l6 ji8 x16_13 = some (r1, r2)) ∧ Aside0 (kq ≤ k) ∧ Aside0 (Kd.R (Kd.int .i64) 3 wc w0.heap.size (fun k_ => (P6_ k_ ∨ w.heap.size ≤ k_)) (.slice (some ad515) l6.length co15) l6) ∧ Aside0 (Kept w wc (fun k_ => P6_ k_)) ∧ Aside0 (Below w0.heap.size w0 wc))
        case first =>
          have H := HC14.out
          clear HC14
          by_cases c16 : t517 ≤ a5
          · rw [if_pos c16] at H
            have c16b0 : decide (t517 ≤ a5) = true := decide_eq_true c16
            clear c16
            (first | rw [c16b0] | (simp only [i64_w, i32_w]; rw [c16b0]) | skip)
            have H' := Aside0.mk H
            clear H
            go_wp2
            go_meet
            case rel => exact ⟨_, (1), (by first | rfl | (simp; done) | (simp [*]; done)), H', ⟨by first | omega | exact Nat.le_refl _⟩, ⟨by (with_reducible repeat (first | apply Kd.R_alloc | apply Kd.R_drewN | apply Kd.R_drew)); exact HO6.out⟩, ⟨by repeat (first | (with_reducible first | exact HK.out | apply Kept.alloc | apply Kept.drewN | apply Kept.drew) | exact HK.out)⟩, ⟨by repeat (first | (with_reducible first | exact HB.out | apply below_alloc | apply pw_below_drewN | apply below_drew1) | exact HB.out)⟩⟩
          · rw [if_neg c16] at H
            have c16b0 : decide (t517 ≤ a5) = false := decide_eq_false c16
            clear c16
            (first | rw [c16b0] | (simp only [i64_w, i32_w]; rw [c16b0]) | skip)
            have H' := Aside0.mk H
            clear H
            go_wp2
            go_meet
            case rel => exact ⟨_, (wrap64 ((wrap64 (a3 - a1)) * (wrap64 (a4 - a2)))), (by first | rfl | (simp; done) | (simp [*]; done)), H', ⟨by first | omega | exact Nat.le_refl _⟩, ⟨by (with_reducible repeat (first | apply Kd.R_alloc | apply Kd.R_drewN | apply Kd.R_drew)); exact HO6.out⟩, ⟨by repeat (first | (with_reducible first | exact HK.out | apply Kept.alloc | apply Kept.drewN | apply Kept.drew) | exact HK.out)⟩, ⟨by repeat (first | (with_reducible first | exact HB.out | apply below_alloc | apply pw_below_drewN | apply below_drew1) | exact HB.out)⟩⟩
        case rest =>
          clear HC14
          try clear c1
          try clear p2
          try clear c5
          try clear p5
          try clear q5
          try clear hx5
          try clear p6
          try clear c9
          try clear c9b0
          try clear c10
          try clear c10b0
          try clear c11
          try clear c11b0
          try clear c16
          try clear c16b0
          try clear hx515_0
          try clear hx516_0
          try clear p515
          try clear p516
          try clear q515
          try clear q516
          obtain ⟨kq, x16_13, rfl, HA, HJ13, HO_6, HK, HB⟩ := hcut
          cases kq with
          | zero => exact absurd HA.out (by simp [spec_ntFew.j0])
          | succ kj13 =>
            have H := HA.out
            clear HA
            simp only [spec_ntFew.j0] at H
            have H' := Aside0.mk H
            clear H
            go_wp2
            go_loopg [16, 17] kj13 (fun kq v16 v17 w' => ∃ (x6_2 : List Int) (x16_2 : Int) (x17_2 : Int), v16 = .int .i64 x16_2 ∧ v17 = .int .i64 x17_2 ∧ Aside0 (spec_ntFew.l0 kq l0 a1 a2 a3 a4 a5 x6_2 ji8 x16_2 x17_2 = some (r1, r2)) ∧ Aside0 (kq ≤ kj13) ∧ Aside0 (Kd.R (Kd.int .i64) 3 w' w0.heap.size (fun k_ => (P6_ k_ ∨ w.heap.size ≤ k_)) (.slice (some ad515) l6.length co15) x6_2) ∧ Aside0 (Kept w w' (fun k_ => P6_ k_)) ∧ Aside0 (Below w0.heap.size w0 w'))
            case atStart => exact ⟨(l6), (x16_13), (wrap64 (a1 + 1)), (by first | rfl | (simp; done) | (simp [*]; done)), (by first | rfl | (simp; done) | (simp [*]; done)), H', ⟨Nat.le_refl _⟩, ⟨by (with_reducible repeat (first | apply Kd.R_alloc | apply Kd.R_drewN | apply Kd.R_drew)); exact HO_6.out⟩, ⟨by repeat (first | (with_reducible first | exact HK.out | apply Kept.alloc | apply Kept.drewN | apply Kept.drew) | exact HK.out)⟩, ⟨by repeat (first | (with_reducible first | exact HB.out | apply below_alloc | apply pw_below_drewN | apply below_drew1) | exact HB.out)⟩⟩
            case round =>
              clear H'
              try clear c1
              try clear p2
              try clear c5
              try clear p5
              try clear q5
              try clear hx5
              try clear p6
              try clear c9
              try clear c9b0
              try clear c10
              try clear c10b0
              try clear c11
              try clear c11b0
              try clear c16
              try clear c16b0
              try clear hx515_0
              try clear hx516_0
              try clear p2
              try clear p5
              try clear p515
              try clear p516
              try clear p6
              try clear q5
              try clear q515
              try clear q516
              obtain ⟨x6_2, x16_2, x17_2, rfl, rfl, HA, HK2, HO_6, HK, HB⟩ := hrel
              have hl6_2 := (Kd.R_reads' HO_6.out).1
              rw [hl6_2] at HO_6
              (try simp only [hl6_2])
              cases gk with
              | zero => exact absurd HA.out (by simp [spec_ntFew.l0])
              | succ k2 =>
                have H := HA.out
                clear HA
                simp only [spec_ntFew.l0] at H
                have HC17 := Aside0.mk H
                clear H
                go_upto_region 8 with (fail)
                go_cut [61] (fun v61 wc => ∃ (kq : Nat) (x61_16 : Bool), v61 = .bool x61_16 ∧ Aside0 (spec_ntFew.j2 kq l0 a1 a2 a3 a4 a5 x6_2 ji8 x16_2 x17_2 x61_16 = some (r1, r2)) ∧ Aside0 (kq ≤ k2) ∧ Aside0 (Kd.R (Kd.int .i64) 3 wc w0.heap.size (fun k_ => (P6_ k_ ∨ w.heap.size ≤ k_)) (.slice (some ad515) x6_2.length co15) x6_2) ∧ Aside0 (Kept w wc (fun k_ => P6_ k_)) ∧ Aside0 (Below w0.heap.size w0 wc))
                case first =>
                  have H := HC17.out
                  clear HC17
                  by_cases c18 : x17_2 < a3
                  · rw [if_pos c18] at H
                    have c18b0 : decide (x17_2 < a3) = true := decide_eq_true c18
                    clear c18
                    (first | rw [c18b0] | (simp only [i64_w, i32_w]; rw [c18b0]) | skip)
                    have H' := Aside0.mk H
                    clear H
                    go_wp2
                    go_meet
                    case rel => exact ⟨_, (decide (x16_2 > 1)), (by first | rfl | (simp; done) | (simp [*]; done)), H', ⟨by have := HJ13.out; have := HK2.out; first | omega | exact Nat.le_refl _⟩, ⟨by (try simp only [hl6_2]); (with_reducible repeat (first | apply Kd.R_alloc | apply Kd.R_drewN | apply Kd.R_drew)); exact HO_6.out⟩, ⟨by repeat (first | (with_reducible first | exact HK.out | apply Kept.alloc | apply Kept.drewN | apply Kept.drew) | exact HK.out)⟩, ⟨by repeat (first | (with_reducible first | exact HB.out | apply below_alloc | apply pw_below_drewN | apply below_drew1) | exact HB.out)⟩⟩
                  · rw [if_neg c18] at H
                    have c18b0 : decide (x17_2 < a3) = false := decide_eq_false c18
                    clear c18
                    (first | rw [c18b0] | (simp only [i64_w, i32_w]; rw [c18b0]) | skip)
                    have H' := Aside0.mk H
                    clear H
                    go_wp2
                    go_meet
                    case rel => exact ⟨_, (false), (by first | rfl | (simp; done) | (simp [*]; done)), H', ⟨by have := HJ13.out; have := HK2.out; first | omega | exact Nat.le_refl _⟩, ⟨by (try simp only [hl6_2]); (with_reducible repeat (first | apply Kd.R_alloc | apply Kd.R_drewN | apply Kd.R_drew)); exact HO_6.out⟩, ⟨by repeat (first | (with_reducible first | exact HK.out | apply Kept.alloc | apply Kept.drewN | apply Kept.drew) | exact HK.out)⟩, ⟨by repeat (first | (with_reducible first | exact HB.out | apply below_alloc | apply pw_below_drewN | apply below_drew1) | exact HB.out)⟩⟩
                case rest =>
                  clear HC17
                  try clear c1
                  try clear p2
                  try clear c5
                  try clear p5
                  try clear q5
                  try clear hx5
                  try clear p6
                  try clear c9
                  try clear c9b0
                  try clear c10
                  try clear c10b0
                  try clear c11
                  try clear c11b0
                  try clear c16
                  try clear c16b0
                  try clear c18
                  try clear c18b0
                  try clear hx515_0
                  try clear hx516_0
                  try clear p2
                  try clear p5
                  try clear p515
                  try clear p516
                  try clear p6
                  try clear q5
                  try clear q515
                  try clear q516
                  obtain ⟨kq, x61_16, rfl, HA, HJ16, HO_6, HK, HB⟩ := hcut
                  cases kq with
                  | zero => exact absurd HA.out (by simp [spec_ntFew.j2])
                  | succ kj16 =>
                    have H := HA.out
                    clear HA
                    simp only [spec_ntFew.j2] at H
                    by_cases c19 : x61_16 = true
                    · subst c19
                      have H1 : ((spec_ntFew.f kj16 l0 a1 a2 x17_2 a4 a5 x6_2).bind fun bt518 => ((spec_ntFew.f kj16 l0 x17_2 a2 a3 a4 a5 bt518.2).bind fun bt520 => ((spec_l1Least.f x16_2 (wrap64 (bt518.1 + bt520.1))).bind fun t522 => (spec_ntFew.l0 kj16 l0 a1 a2 a3 a4 a5 bt520.2 ji8 t522 (wrap64 (x17_2 + 1)))))) = some (r1, r2) := by rw [if_pos rfl] at H; exact H
                      clear H
                      have H := H1
                      clear H1
                      replace H := Option.bind_eq_some_iff.mp H
                      obtain ⟨⟨t518, t519⟩, A200, H⟩ := H
                      replace H : ((spec_ntFew.f kj16 l0 x17_2 a2 a3 a4 a5 t519).bind fun bt520 => ((spec_l1Least.f x16_2 (wrap64 (t518 + bt520.1))).bind fun t522 => (spec_ntFew.l0 kj16 l0 a1 a2 a3 a4 a5 bt520.2 ji8 t522 (wrap64 (x17_2 + 1))))) = some (r1, r2) := H
                      have A20 := Aside0.mk A200
                      clear A200
                      replace H := Option.bind_eq_some_iff.mp H
                      obtain ⟨⟨t520, t521⟩, A210, H⟩ := H
                      replace H : ((spec_l1Least.f x16_2 (wrap64 (t518 + t520))).bind fun t522 => (spec_ntFew.l0 kj16 l0 a1 a2 a3 a4 a5 t521 ji8 t522 (wrap64 (x17_2 + 1)))) = some (r1, r2) := H
                      have A21 := Aside0.mk A210
                      clear A210
                      replace H := Option.bind_eq_some_iff.mp H
                      obtain ⟨t522, A220, H⟩ := H
                      replace H : (spec_ntFew.l0 kj16 l0 a1 a2 a3 a4 a5 t521 ji8 t522 (wrap64 (x17_2 + 1))) = some (r1, r2) := H
                      have A22 := Aside0.mk A220
                      clear A220
                      have H' := Aside0.mk H
                      clear H
                      go_wp2_with (first | ((with_reducible refine gate_callee (f := 59) rfl ?_); refine goesL_ (some 72) rfl rfl Tryd.func59 (by kernel_rfl) rfl #[.slice A0 l0.length c0, .int .i64 a1, .int .i64 a2, .int .i64 x17_2, .int .i64 a4, .int .i64 a5, .slice (some ad515) x6_2.length co15] rfl (by (try simp only [List.map_toArray, List.map_cons, List.map_nil]); first | done | rfl | (simp only [List.length_drop, List.length_take]; rfl)) ?_; (with_reducible refine (ih kj16 (by have := HJ13.out; have := HK2.out; have := HJ16.out; omega) _ _ l0 a1 a2 x17_2 a4 a5 (fun k_ => some k_ = (.slice (some ad515) x6_2.length co15 : Value).ownBlock) (.slice (some ad515) x6_2.length co15) x6_2 t518 t519 w0 _ ?side1 ?side2 ?side3 ?side4 A20.out).mono ?_); (case side1 => repeat (first | (with_reducible first | exact HB.out | apply below_alloc | apply pw_below_drewN | apply below_drew1) | exact HB.out)); (case side2 => exact Kd.C_kept_call HR0.out (by repeat (first | (with_reducible first | exact HK.out | apply Kept.alloc | apply Kept.drewN | apply Kept.drew) | exact HK.out)) (fun k_ hs_ => (fun e_ => (HO_6.out.1 k_ e_.symm)) hs_)); (case side3 => exact HC0.out); (case side4 => exact Kd.R_tight rfl HO_6.out); rintro e w23 ⟨rfl, hy0, hb, hkp⟩; refine ⟨_, rfl, ?_⟩; have n0_ := Aside0.mk (Kd.R_reok rfl hy0 (fun k_ e_ => HO_6.out.1 k_ e_)); have n1_ := Aside0.mk (Kept.then_ (S := (fun k_ => P6_ k_)) (by repeat (first | (with_reducible first | exact HK.out | apply Kept.alloc | apply Kept.drewN | apply Kept.drew) | exact HK.out)) hkp (fun k_ hs_ => (fun e_ => (HO_6.out.1 k_ e_.symm)) hs_)); have n2_ := Aside0.mk (hb); clear HO_6; clear HK; clear HB; have HO_6 := n0_; have HK := n1_; have HB := n2_; clear n0_ n1_ n2_; (try clear hb); (try clear hkp); (try clear hy0)) | ((with_reducible refine gate_callee (f := 59) rfl ?_); refine goesL_ (some 80) rfl rfl Tryd.func59 (by kernel_rfl) rfl #[.slice A0 l0.length c0, .int .i64 x17_2, .int .i64 a2, .int .i64 a3, .int .i64 a4, .int .i64 a5, .slice (some ad515) x6_2.length co15] rfl (by (try simp only [List.map_toArray, List.map_cons, List.map_nil]); first | done | rfl | (simp only [List.length_drop, List.length_take]; rfl)) ?_; (with_reducible refine (ih kj16 (by have := HJ13.out; have := HK2.out; have := HJ16.out; omega) _ _ l0 x17_2 a2 a3 a4 a5 (fun k_ => some k_ = (.slice (some ad515) x6_2.length co15 : Value).ownBlock) (.slice (some ad515) x6_2.length co15) t519 t520 t521 w0 _ ?side1 ?side2 ?side3 ?side4 A21.out).mono ?_); (case side1 => repeat (first | (with_reducible first | exact HB.out | apply below_alloc | apply pw_below_drewN | apply below_drew1) | exact HB.out)); (case side2 => exact Kd.C_kept_call HR0.out (by repeat (first | (with_reducible first | exact HK.out | apply Kept.alloc | apply Kept.drewN | apply Kept.drew) | exact HK.out)) (fun k_ hs_ => (fun e_ => (HO_6.out.1 k_ e_.symm)) hs_)); (case side3 => exact HC0.out); (case side4 => exact Kd.R_tight rfl HO_6.out); rintro e w24 ⟨rfl, hy0, hb, hkp⟩; refine ⟨_, rfl, ?_⟩; have n0_ := Aside0.mk (Kd.R_reok rfl hy0 (fun k_ e_ => HO_6.out.1 k_ e_)); have n1_ := Aside0.mk (Kept.then_ (S := (fun k_ => P6_ k_)) (by repeat (first | (with_reducible first | exact HK.out | apply Kept.alloc | apply Kept.drewN | apply Kept.drew) | exact HK.out)) hkp (fun k_ hs_ => (fun e_ => (HO_6.out.1 k_ e_.symm)) hs_)); have n2_ := Aside0.mk (hb); clear HO_6; clear HK; clear HB; have HO_6 := n0_; have HK := n1_; have HB := n2_; clear n0_ n1_ n2_; (try clear hb); (try clear hkp); (try clear hy0)) | ((with_reducible refine gate_callee (f := 66) rfl ?_); refine goesL_ (some 82) rfl rfl Tryd.func66 (by kernel_rfl) rfl #[.int .i64 x16_2, .int .i64 (wrap64 (t518 + t520))] rfl (by (try simp only [List.map_toArray, List.map_cons, List.map_nil]); first | done | rfl | (simp only [List.length_drop, List.length_take]; rfl)) ?_; (with_reducible refine (spec_l1Least.calls x16_2 (wrap64 (t518 + t520)) t522 _ A22.out).mono ?_); rintro e w' ⟨rfl, ⟨nd, rfl⟩⟩; refine ⟨_, rfl, ?_⟩))
                      (try simp only [← hl6_2])
                      go_roundg kj16
                      case measure => have := HJ13.out; have := HK2.out; have := HJ16.out; omega
                      case rel => exact ⟨(t521), (t522), (wrap64 (x17_2 + 1)), (by first | rfl | (simp; done) | (simp [*]; done)), (by first | rfl | (simp; done) | (simp [*]; done)), H', ⟨by have := HJ13.out; have := HK2.out; have := HJ16.out; omega⟩, ⟨by (try simp only [hl6_2]); (with_reducible repeat (first | apply Kd.R_alloc | apply Kd.R_drewN | apply Kd.R_drew)); exact HO_6.out⟩, ⟨by repeat (first | (with_reducible first | exact HK.out | apply Kept.alloc | apply Kept.drewN | apply Kept.drew) | exact HK.out)⟩, ⟨by repeat (first | (with_reducible first | exact HB.out | apply below_alloc | apply pw_below_drewN | apply below_drew1) | exact HB.out)⟩⟩
                    · replace c19 := Bool.eq_false_iff.mpr c19
                      subst c19
                      have H1 : (spec_ntFew.l1 kj16 l0 a1 a2 a3 a4 a5 x6_2 ji8 x16_2 (wrap64 (a2 + 1))) = some (r1, r2) := by rw [if_neg (show ¬ (false = true) by decide)] at H; exact H
                      clear H
                      have H := H1
                      clear H1
                      have H' := Aside0.mk H
                      clear H
                      go_wp2
                      go_loopg [16, 18] kj16 (fun kq v16 v18 w' => ∃ (x6_4 : List Int) (x16_4 : Int) (x18_4 : Int), v16 = .int .i64 x16_4 ∧ v18 = .int .i64 x18_4 ∧ Aside0 (spec_ntFew.l1 kq l0 a1 a2 a3 a4 a5 x6_4 ji8 x16_4 x18_4 = some (r1, r2)) ∧ Aside0 (kq ≤ kj16) ∧ Aside0 (Kd.R (Kd.int .i64) 3 w' w0.heap.size (fun k_ => (P6_ k_ ∨ w.heap.size ≤ k_)) (.slice (some ad515) x6_2.length co15) x6_4) ∧ Aside0 (Kept w w' (fun k_ => P6_ k_)) ∧ Aside0 (Below w0.heap.size w0 w'))
                      case atStart => exact ⟨(x6_2), (x16_2), (wrap64 (a2 + 1)), (by first | rfl | (simp; done) | (simp [*]; done)), (by first | rfl | (simp; done) | (simp [*]; done)), H', ⟨Nat.le_refl _⟩, ⟨by (try simp only [hl6_2]); (with_reducible repeat (first | apply Kd.R_alloc | apply Kd.R_drewN | apply Kd.R_drew)); exact HO_6.out⟩, ⟨by repeat (first | (with_reducible first | exact HK.out | apply Kept.alloc | apply Kept.drewN | apply Kept.drew) | exact HK.out)⟩, ⟨by repeat (first | (with_reducible first | exact HB.out | apply below_alloc | apply pw_below_drewN | apply below_drew1) | exact HB.out)⟩⟩
                      case round =>
                        clear H'
                        try clear c1
                        try clear p2
                        try clear c5
                        try clear p5
                        try clear q5
                        try clear hx5
                        try clear c6
                        try clear p6
                        try clear c9
                        try clear c9b0
                        try clear c10
                        try clear c10b0
                        try clear c11
                        try clear c11b0
                        try clear c16
                        try clear c16b0
                        try clear c18
                        try clear c18b0
                        try clear c19
                        try clear hx515_0
                        try clear hx516_0
                        try clear p2
                        try clear p5
                        try clear p515
                        try clear p516
                        try clear p6
                        try clear q5
                        try clear q515
                        try clear q516
                        obtain ⟨x6_4, x16_4, x18_4, rfl, rfl, HA, HK4, HO_6, HK, HB⟩ := hrel
                        have hl6_4 := (Kd.R_reads' HO_6.out).1
                        rw [hl6_4] at HO_6
                        (try simp only [hl6_4])
                        cases gk with
                        | zero => exact absurd HA.out (by simp [spec_ntFew.l1])
                        | succ k4 =>
                          have H := HA.out
                          clear HA
                          simp only [spec_ntFew.l1] at H
                          have HC25 := Aside0.mk H
                          clear H
                          go_upto_region 12 with (fail)
                          go_cut [91] (fun v91 wc => ∃ (kq : Nat) (x91_24 : Bool), v91 = .bool x91_24 ∧ Aside0 (spec_ntFew.j4 kq l0 a1 a2 a3 a4 a5 x6_4 ji8 x16_4 x18_4 x91_24 = some (r1, r2)) ∧ Aside0 (kq ≤ k4) ∧ Aside0 (Kd.R (Kd.int .i64) 3 wc w0.heap.size (fun k_ => (P6_ k_ ∨ w.heap.size ≤ k_)) (.slice (some ad515) x6_4.length co15) x6_4) ∧ Aside0 (Kept w wc (fun k_ => P6_ k_)) ∧ Aside0 (Below w0.heap.size w0 wc))
                          case first =>
                            have H := HC25.out
                            clear HC25
                            by_cases c26 : x18_4 < a4
                            · rw [if_pos c26] at H
                              have c26b0 : decide (x18_4 < a4) = true := decide_eq_true c26
                              clear c26
                              (first | rw [c26b0] | (simp only [i64_w, i32_w]; rw [c26b0]) | skip)
                              have H' := Aside0.mk H
                              clear H
                              go_wp2
                              go_meet
                              case rel => exact ⟨_, (decide (x16_4 > 1)), (by first | rfl | (simp; done) | (simp [*]; done)), H', ⟨by have := HJ13.out; have := HK2.out; have := HJ16.out; have := HK4.out; first | omega | exact Nat.le_refl _⟩, ⟨by (try simp only [hl6_2]); (try simp only [hl6_4]); (with_reducible repeat (first | apply Kd.R_alloc | apply Kd.R_drewN | apply Kd.R_drew)); exact HO_6.out⟩, ⟨by repeat (first | (with_reducible first | exact HK.out | apply Kept.alloc | apply Kept.drewN | apply Kept.drew) | exact HK.out)⟩, ⟨by repeat (first | (with_reducible first | exact HB.out | apply below_alloc | apply pw_below_drewN | apply below_drew1) | exact HB.out)⟩⟩
                            · rw [if_neg c26] at H
                              have c26b0 : decide (x18_4 < a4) = false := decide_eq_false c26
                              clear c26
                              (first | rw [c26b0] | (simp only [i64_w, i32_w]; rw [c26b0]) | skip)
                              have H' := Aside0.mk H
                              clear H
                              go_wp2
                              go_meet
                              case rel => exact ⟨_, (false), (by first | rfl | (simp; done) | (simp [*]; done)), H', ⟨by have := HJ13.out; have := HK2.out; have := HJ16.out; have := HK4.out; first | omega | exact Nat.le_refl _⟩, ⟨by (try simp only [hl6_2]); (try simp only [hl6_4]); (with_reducible repeat (first | apply Kd.R_alloc | apply Kd.R_drewN | apply Kd.R_drew)); exact HO_6.out⟩, ⟨by repeat (first | (with_reducible first | exact HK.out | apply Kept.alloc | apply Kept.drewN | apply Kept.drew) | exact HK.out)⟩, ⟨by repeat (first | (with_reducible first | exact HB.out | apply below_alloc | apply pw_below_drewN | apply below_drew1) | exact HB.out)⟩⟩
                          case rest =>
                            clear HC25
                            try clear c1
                            try clear c2
                            try clear p2
                            try clear c5
                            try clear p5
                            try clear q5
                            try clear hx5
                            try clear c6
                            try clear p6
                            try clear c9
                            try clear c9b0
                            try clear c10
                            try clear c10b0
                            try clear c11
                            try clear c11b0
                            try clear c16
                            try clear c16b0
                            try clear c18
                            try clear c18b0
                            try clear c19
                            try clear c26
                            try clear c26b0
                            try clear hx515_0
                            try clear hx516_0
                            try clear p2
                            try clear p5
                            try clear p515
                            try clear p516
                            try clear p6
                            try clear q5
                            try clear q515
                            try clear q516
                            obtain ⟨kq, x91_24, rfl, HA, HJ24, HO_6, HK, HB⟩ := hcut
                            cases kq with
                            | zero => exact absurd HA.out (by simp [spec_ntFew.j4])
                            | succ kj24 =>
                              have H := HA.out
                              clear HA
                              simp only [spec_ntFew.j4] at H
                              by_cases c27 : x91_24 = true
                              · subst c27
                                have H1 : ((spec_ntFew.f kj24 l0 a1 a2 a3 x18_4 a5 x6_4).bind fun bt523 => ((spec_ntFew.f kj24 l0 a1 x18_4 a3 a4 a5 bt523.2).bind fun bt525 => ((spec_l1Least.f x16_4 (wrap64 (bt523.1 + bt525.1))).bind fun t527 => (spec_ntFew.l1 kj24 l0 a1 a2 a3 a4 a5 bt525.2 ji8 t527 (wrap64 (x18_4 + 1)))))) = some (r1, r2) := by rw [if_pos rfl] at H; exact H
                                clear H
                                have H := H1
                                clear H1
                                replace H := Option.bind_eq_some_iff.mp H
                                obtain ⟨⟨t523, t524⟩, A280, H⟩ := H
                                replace H : ((spec_ntFew.f kj24 l0 a1 x18_4 a3 a4 a5 t524).bind fun bt525 => ((spec_l1Least.f x16_4 (wrap64 (t523 + bt525.1))).bind fun t527 => (spec_ntFew.l1 kj24 l0 a1 a2 a3 a4 a5 bt525.2 ji8 t527 (wrap64 (x18_4 + 1))))) = some (r1, r2) := H
                                have A28 := Aside0.mk A280
                                clear A280
                                replace H := Option.bind_eq_some_iff.mp H
                                obtain ⟨⟨t525, t526⟩, A290, H⟩ := H
                                replace H : ((spec_l1Least.f x16_4 (wrap64 (t523 + t525))).bind fun t527 => (spec_ntFew.l1 kj24 l0 a1 a2 a3 a4 a5 t526 ji8 t527 (wrap64 (x18_4 + 1)))) = some (r1, r2) := H
                                have A29 := Aside0.mk A290
                                clear A290
                                replace H := Option.bind_eq_some_iff.mp H
                                obtain ⟨t527, A300, H⟩ := H
                                replace H : (spec_ntFew.l1 kj24 l0 a1 a2 a3 a4 a5 t526 ji8 t527 (wrap64 (x18_4 + 1))) = some (r1, r2) := H
                                have A30 := Aside0.mk A300
                                clear A300
                                have H' := Aside0.mk H
                                clear H
                                go_wp2_with (first | ((with_reducible refine gate_callee (f := 59) rfl ?_); refine goesL_ (some 102) rfl rfl Tryd.func59 (by kernel_rfl) rfl #[.slice A0 l0.length c0, .int .i64 a1, .int .i64 a2, .int .i64 a3, .int .i64 x18_4, .int .i64 a5, .slice (some ad515) x6_4.length co15] rfl (by (try simp only [List.map_toArray, List.map_cons, List.map_nil]); first | done | rfl | (simp only [List.length_drop, List.length_take]; rfl)) ?_; (with_reducible refine (ih kj24 (by have := HJ13.out; have := HK2.out; have := HJ16.out; have := HK4.out; have := HJ24.out; omega) _ _ l0 a1 a2 a3 x18_4 a5 (fun k_ => some k_ = (.slice (some ad515) x6_4.length co15 : Value).ownBlock) (.slice (some ad515) x6_4.length co15) x6_4 t523 t524 w0 _ ?side1 ?side2 ?side3 ?side4 A28.out).mono ?_); (case side1 => repeat (first | (with_reducible first | exact HB.out | apply below_alloc | apply pw_below_drewN | apply below_drew1) | exact HB.out)); (case side2 => exact Kd.C_kept_call HR0.out (by repeat (first | (with_reducible first | exact HK.out | apply Kept.alloc | apply Kept.drewN | apply Kept.drew) | exact HK.out)) (fun k_ hs_ => (fun e_ => (HO_6.out.1 k_ e_.symm)) hs_)); (case side3 => exact HC0.out); (case side4 => exact Kd.R_tight rfl HO_6.out); rintro e w31 ⟨rfl, hy0, hb, hkp⟩; refine ⟨_, rfl, ?_⟩; have n0_ := Aside0.mk (Kd.R_reok rfl hy0 (fun k_ e_ => HO_6.out.1 k_ e_)); have n1_ := Aside0.mk (Kept.then_ (S := (fun k_ => P6_ k_)) (by repeat (first | (with_reducible first | exact HK.out | apply Kept.alloc | apply Kept.drewN | apply Kept.drew) | exact HK.out)) hkp (fun k_ hs_ => (fun e_ => (HO_6.out.1 k_ e_.symm)) hs_)); have n2_ := Aside0.mk (hb); clear HO_6; clear HK; clear HB; have HO_6 := n0_; have HK := n1_; have HB := n2_; clear n0_ n1_ n2_; (try clear hb); (try clear hkp); (try clear hy0)) | ((with_reducible refine gate_callee (f := 59) rfl ?_); refine goesL_ (some 110) rfl rfl Tryd.func59 (by kernel_rfl) rfl #[.slice A0 l0.length c0, .int .i64 a1, .int .i64 x18_4, .int .i64 a3, .int .i64 a4, .int .i64 a5, .slice (some ad515) x6_4.length co15] rfl (by (try simp only [List.map_toArray, List.map_cons, List.map_nil]); first | done | rfl | (simp only [List.length_drop, List.length_take]; rfl)) ?_; (with_reducible refine (ih kj24 (by have := HJ13.out; have := HK2.out; have := HJ16.out; have := HK4.out; have := HJ24.out; omega) _ _ l0 a1 x18_4 a3 a4 a5 (fun k_ => some k_ = (.slice (some ad515) x6_4.length co15 : Value).ownBlock) (.slice (some ad515) x6_4.length co15) t524 t525 t526 w0 _ ?side1 ?side2 ?side3 ?side4 A29.out).mono ?_); (case side1 => repeat (first | (with_reducible first | exact HB.out | apply below_alloc | apply pw_below_drewN | apply below_drew1) | exact HB.out)); (case side2 => exact Kd.C_kept_call HR0.out (by repeat (first | (with_reducible first | exact HK.out | apply Kept.alloc | apply Kept.drewN | apply Kept.drew) | exact HK.out)) (fun k_ hs_ => (fun e_ => (HO_6.out.1 k_ e_.symm)) hs_)); (case side3 => exact HC0.out); (case side4 => exact Kd.R_tight rfl HO_6.out); rintro e w32 ⟨rfl, hy0, hb, hkp⟩; refine ⟨_, rfl, ?_⟩; have n0_ := Aside0.mk (Kd.R_reok rfl hy0 (fun k_ e_ => HO_6.out.1 k_ e_)); have n1_ := Aside0.mk (Kept.then_ (S := (fun k_ => P6_ k_)) (by repeat (first | (with_reducible first | exact HK.out | apply Kept.alloc | apply Kept.drewN | apply Kept.drew) | exact HK.out)) hkp (fun k_ hs_ => (fun e_ => (HO_6.out.1 k_ e_.symm)) hs_)); have n2_ := Aside0.mk (hb); clear HO_6; clear HK; clear HB; have HO_6 := n0_; have HK := n1_; have HB := n2_; clear n0_ n1_ n2_; (try clear hb); (try clear hkp); (try clear hy0)) | ((with_reducible refine gate_callee (f := 66) rfl ?_); refine goesL_ (some 112) rfl rfl Tryd.func66 (by kernel_rfl) rfl #[.int .i64 x16_4, .int .i64 (wrap64 (t523 + t525))] rfl (by (try simp only [List.map_toArray, List.map_cons, List.map_nil]); first | done | rfl | (simp only [List.length_drop, List.length_take]; rfl)) ?_; (with_reducible refine (spec_l1Least.calls x16_4 (wrap64 (t523 + t525)) t527 _ A30.out).mono ?_); rintro e w' ⟨rfl, ⟨nd, rfl⟩⟩; refine ⟨_, rfl, ?_⟩))
                                (try simp only [← hl6_4])
                                go_roundg kj24
                                case measure => have := HJ13.out; have := HK2.out; have := HJ16.out; have := HK4.out; have := HJ24.out; omega
                                case rel => exact ⟨(t526), (t527), (wrap64 (x18_4 + 1)), (by first | rfl | (simp; done) | (simp [*]; done)), (by first | rfl | (simp; done) | (simp [*]; done)), H', ⟨by have := HJ13.out; have := HK2.out; have := HJ16.out; have := HK4.out; have := HJ24.out; omega⟩, ⟨by (try simp only [hl6_2]); (try simp only [hl6_4]); (with_reducible repeat (first | apply Kd.R_alloc | apply Kd.R_drewN | apply Kd.R_drew)); exact HO_6.out⟩, ⟨by repeat (first | (with_reducible first | exact HK.out | apply Kept.alloc | apply Kept.drewN | apply Kept.drew) | exact HK.out)⟩, ⟨by repeat (first | (with_reducible first | exact HB.out | apply below_alloc | apply pw_below_drewN | apply below_drew1) | exact HB.out)⟩⟩
                              · replace c27 := Bool.eq_false_iff.mpr c27
                                subst c27
                                have H1 : (if 0 ≤ ji8 then (if ji8 < (x6_4.length : Int) then (some (x16_4, (x6_4.set (ji8 : Int).toNat x16_4))) else (none)) else (none)) = some (r1, r2) := by rw [if_neg (show ¬ (false = true) by decide)] at H; exact H
                                clear H
                                have H := H1
                                clear H1
                                by_cases c33 : 0 ≤ ji8
                                · rw [if_pos c33] at H
                                  have c33b0 : decide (0 ≤ ji8) = true := decide_eq_true c33
                                  clear c33
                                  by_cases c34 : ji8 < (x6_4.length : Int)
                                  · rw [if_pos c34] at H
                                    have c34b0 : decide (ji8 < (x6_4.length : Int)) = true := decide_eq_true c34
                                    clear c34
                                    obtain ⟨y528, hy528⟩ : ∃ y_ : List Int, y_ = (x6_4.set (ji8 : Int).toNat x16_4) := ⟨_, rfl⟩
                                    replace H : (some (x16_4, y528)) = some (r1, r2) := by first | (rw [hy528]; with_reducible exact H) | (have H2_ := (Option.bind_some _ _).symm.trans H; rw [hy528]; with_reducible exact H2_) | (have H2_ := (Option.bind_some _ _).symm.trans H; with_reducible exact H2_) | with_reducible exact H | (rw [hy528]; exact H) | exact H
                                    have Ny528 := Aside0.mk hy528
                                    clear hy528
                                    simp only [Option.some.injEq, Prod.mk.injEq] at H
                                    obtain ⟨rfl, rfl⟩ := H
                                    have p35 : 0 ≤ (ji8 : Int) := of_decide_eq_true (by first | (with_reducible assumption) | assumption)
                                    have q35 : (ji8 : Int) < ((x6_4.length : Int) : Int) := of_decide_eq_true (by first | (with_reducible assumption) | assumption)
                                    obtain ⟨go35, co35, eo35, gb35, gl35, cl35, HG35⟩ := Kd.R_form HO_6.out (by omega)
                                    (first | cases eo35 | (injection eo35 with ea_ en_ ec_; (first | subst ea_ | (injection ea_ with ea_; subst ea_)); subst ec_; clear en_))
                                    have GB35 := Aside0.mk gb35
                                    have GG35 := Aside0.mk HG35
                                    clear gb35 gl35 HG35
                                    have HMgo35 := Aside0.mk (show (P6_ go35 ∨ w.heap.size ≤ go35) from (HO_6.out.1 _ rfl))
                                    (first | simp only [add_plain] at hx515_0 | skip)
                                    (first | simp only [add_plain] at hx516_0 | skip)
                                    obtain ⟨hx35_0, hf35_0⟩ := Kd.R_celln 0 HO_6.out (ji8 : Int) p35 q35
                                    replace p35 := eq_true p35
                                    replace q35 := eq_true q35
                                    have HP36 := Kd.R_putg HO_6.out (ji8 : Int) x16_4
                                    go_wp2_with (first | ((with_reducible refine gate_store (t := 3) (p := 116) rfl ?_); refine store_event (t := 3) (p := 116) (v := ?vo_w37) (w1 := (wc.setCell ⟨go35, (ji8 : Int).toNat, none⟩ (.int .i64 x16_4))) ?hg ?ho ?hn ?hr ?_; (case ho => rfl); (case hg => rfl); (case hn => rfl); (case hr => first | (go_simp; done) | (go_simp; rfl)); intro w37 hw; have hg : wc.grownBy w37 (some go35) := (by rw [hw]; exact HP36.2); have hp_ : Kd.R (Kd.int .i64) 3 w37 w0.heap.size (fun k_ => (P6_ k_ ∨ w.heap.size ≤ k_)) (.slice (some ⟨go35, 0, none⟩) x6_4.length co15) y528 := (by rw [hw, Ny528.out]; exact HP36.1); clear HP36; have n0_ := Aside0.mk (hp_); have n1_ := Aside0.mk ((by rw [hw]; exact below_set (HB.out) GB35.out : Below w0.heap.size w0 w37)); have n2_ := Aside0.mk (Kept.of_grown (S := (fun k_ => P6_ k_)) hg (by repeat (first | (with_reducible first | exact HK.out | apply Kept.alloc | apply Kept.drewN | apply Kept.drew) | exact HK.out)) (fun k_ e_ => (HO_6.out.1 k_ e_))); clear HO_6; clear HB; clear HK; have HO_6 := n0_; have HB := n1_; have HK := n2_; clear n0_ n1_ n2_; clear hg hw hp_))
                                    go_ret
                                    exact ⟨by first | rfl | (simp [errW_none, errW_some] <;> rfl) | (simp only [← hji8]; first | rfl | (simp [errW_none, errW_some] <;> rfl)) | (simp [*, errW_none, errW_some] <;> rfl), (by first | exact (by (with_reducible repeat (first | apply Kd.R_alloc | apply Kd.R_drewN | apply Kd.R_drew)); exact HO_6.out) | (simp only [hl6_2, hl6_4]; exact (by (with_reducible repeat (first | apply Kd.R_alloc | apply Kd.R_drewN | apply Kd.R_drew)); exact HO_6.out))), by repeat (first | (with_reducible first | exact HB.out | apply below_alloc | apply pw_below_drewN | apply below_drew1) | exact HB.out), by repeat (first | (with_reducible first | exact HK.out | apply Kept.alloc | apply Kept.drewN | apply Kept.drew) | exact HK.out)⟩
                                  · rw [if_neg c34] at H
                                    exact absurd H (by simp)
                                · rw [if_neg c33] at H
                                  exact absurd H (by simp)
    · rw [if_neg c10] at H
      exact absurd H (by simp)
  · rw [if_neg c9] at H
    exact absurd H (by simp)

end Go.Proofs.YtedpdfmaccoinaaDoor.P
