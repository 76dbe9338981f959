-- Written by a program of this session (pp.py, over the kit's print): not trusted, Lean checks it.
import Derived.Test.YtocpeikkaciecaaPx0
import Derived.Test.YtocpeikkaciecaaPx2
import Derived.Test.YtocpeikkaciecaaPx3
import Derived.Test.YtocpeikkaciecaaPx21
import Derived.Test.YtocpeikkaciecaaPx22
import Derived.Test.YtocpeikkaciecaaPx41
namespace Go.Proofs.Ytocpeikkaciecaa.P
open Go.RowKit Go.Proofs.YtocpeikkaciecaaW.PrintWords Go.Proofs.YtocpeikkaciecaaW.PrintLast Go.Proofs.YtocpeikkaciecaaW.PrintMore
attribute [local go_sem] max2_int min2_int max_two min_two max_three min_three max_four min_four   -- for this text's walks alone
set_option linter.unusedVariables false
set_option linter.unusedSimpArgs false

/-! ### spec_brAll: function 54 -/
mutual
def spec_brAll.j0 : Nat → List (S57) → Bool → Int → Int → Option ((List (S26)) × Int × Bool)
  | 0, _, _, _, _ => none
  | k + 1, x1, x20, x357000, x357001 => if x20 = true then (some (([] : List (S26)), 0, false)) else (spec_brAll.l0 k (([(⟨x357000, x357001⟩ : S26)] : List (S26))) 0 x1 (x1.length : Int) 0)
def spec_brAll.l0 : Nat → List (S26) → Int → List (S57) → Int → Int → Option ((List (S26)) × Int × Bool)
  | 0, _, _, _, _, _ => none
  | k + 1, x7, x8, x23, x24, x25 => if x25 < x24 then (if 0 ≤ x25 then (if x25 < (x23.length : Int) then ((spec_l1In.f ((rd_T57 x23 x25).f0) 0 (wrap64 ((x7.length : Int) - 1))).bind fun t363 => (if t363 = true then (if 0 ≤ ((rd_T57 x23 x25).f0) then (if ((rd_T57 x23 x25).f0) < (x7.length : Int) then ((spec_brCan.f ((rd_T26 x7 ((rd_T57 x23 x25).f0)).f0) ((rd_T26 x7 ((rd_T57 x23 x25).f0)).f1) ((rd_T57 x23 x25).f1) ((rd_T57 x23 x25).f2)).bind fun t365 => (spec_brAll.j2 k x7 x8 x23 x24 x25 (!t365) ((rd_T57 x23 x25).f0) ((rd_T57 x23 x25).f1) ((rd_T57 x23 x25).f2))) else (none)) else (none)) else (spec_brAll.j2 k x7 x8 x23 x24 x25 true ((rd_T57 x23 x25).f0) ((rd_T57 x23 x25).f1) ((rd_T57 x23 x25).f2)))) else (none)) else (none)) else (some (x7, x8, true))
def spec_brAll.j2 : Nat → List (S26) → Int → List (S57) → Int → Int → Bool → Int → Bool → Int → Option ((List (S26)) × Int × Bool)
  | 0, _, _, _, _, _, _, _, _, _ => none
  | k + 1, x7, x8, x23, x24, x25, x48, x363000, x363001, x363002 => if x48 = true then (some (([] : List (S26)), 0, false)) else (if 0 ≤ x363000 then (if x363000 < (x7.length : Int) then ((spec_brLong.f ((rd_T26 x7 x363000).f0) ((rd_T26 x7 x363000).f1) x363001).bind fun t367 => ((spec_brParts.f ((rd_T26 x7 x363000).f0) ((rd_T26 x7 x363000).f1) x363001 x363002).bind fun bt369 => ((some (x7.set (x363000 : Int).toNat (⟨bt369.1, bt369.2.1⟩ : S26) : List (S26))).bind fun y375 => (if y375.length < 8796093022208 then (spec_brAll.l0 k (y375 ++ [(⟨bt369.2.2.1, bt369.2.2.2⟩ : S26)]) (wrap64 (x8 + t367)) x23 x24 (wrap64 (x25 + 1))) else (none))))) else (none)) else (none))
end
def spec_brAll.f (k : Nat) (a0_0 : Int) (a0_1 : Int) (l1 : List (S57)) : Option ((List (S26)) × Int × Bool) := (spec_brGood.f a0_0 a0_1).bind fun t357 => (if t357 = true then (spec_brAll.j0 k l1 (decide ((l1.length : Int) > 144)) a0_0 a0_1) else (spec_brAll.j0 k l1 true a0_0 a0_1))
theorem spec_brAll.mono_l : ∀ k, (∀ y0 y1 y2 y3, LeO (spec_brAll.j0 k y0 y1 y2 y3) (spec_brAll.j0 (k + 1) y0 y1 y2 y3)) ∧ (∀ y0 y1 y2 y3 y4, LeO (spec_brAll.l0 k y0 y1 y2 y3 y4) (spec_brAll.l0 (k + 1) y0 y1 y2 y3 y4)) ∧ (∀ y0 y1 y2 y3 y4 y5 y6 y7 y8, LeO (spec_brAll.j2 k y0 y1 y2 y3 y4 y5 y6 y7 y8) (spec_brAll.j2 (k + 1) y0 y1 y2 y3 y4 y5 y6 y7 y8))
  | 0 => ⟨fun _ _ _ _ r h => by simp [spec_brAll.j0] at h, fun _ _ _ _ _ r h => by simp [spec_brAll.l0] at h, fun _ _ _ _ _ _ _ _ _ r h => by simp [spec_brAll.j2] at h⟩
  | k + 1 => by
    obtain ⟨ih0, ih1, ih2⟩ := spec_brAll.mono_l k
    refine ⟨?_, ?_, ?_⟩
    · intro y0 y1 y2 y3
      unfold spec_brAll.j0
      repeat' first
      | (with_reducible exact ih0 _ _ _ _)
      | (with_reducible exact ih1 _ _ _ _ _)
      | (with_reducible exact ih2 _ _ _ _ _ _ _ _ _)
      | (with_reducible exact LeO.refl _)
      | (with_reducible exact LeO.none _)
      | (with_reducible refine LeO.ite ?_ ?_)
      | (with_reducible refine LeO.bind ?_ (fun _ => ?_))
      | exact ih0 _ _ _ _
      | exact ih1 _ _ _ _ _
      | exact ih2 _ _ _ _ _ _ _ _ _
      | exact LeO.none _
      | refine LeO.ite ?_ ?_
      | refine LeO.bind ?_ (fun _ => ?_)
    · intro y0 y1 y2 y3 y4
      unfold spec_brAll.l0
      repeat' first
      | (with_reducible exact ih0 _ _ _ _)
      | (with_reducible exact ih1 _ _ _ _ _)
      | (with_reducible exact ih2 _ _ _ _ _ _ _ _ _)
      | (with_reducible exact LeO.refl _)
      | (with_reducible exact LeO.none _)
      | (with_reducible refine LeO.ite ?_ ?_)
      | (with_reducible refine LeO.bind ?_ (fun _ => ?_))
      | exact ih0 _ _ _ _
      | exact ih1 _ _ _ _ _
      | exact ih2 _ _ _ _ _ _ _ _ _
      | exact LeO.none _
      | refine LeO.ite ?_ ?_
      | refine LeO.bind ?_ (fun _ => ?_)
    · intro y0 y1 y2 y3 y4 y5 y6 y7 y8
      unfold spec_brAll.j2
      repeat' first
      | (with_reducible exact ih0 _ _ _ _)
      | (with_reducible exact ih1 _ _ _ _ _)
      | (with_reducible exact ih2 _ _ _ _ _ _ _ _ _)
      | (with_reducible exact LeO.refl _)
      | (with_reducible exact LeO.none _)
      | (with_reducible refine LeO.ite ?_ ?_)
      | (with_reducible refine LeO.bind ?_ (fun _ => ?_))
      | exact ih0 _ _ _ _
      | exact ih1 _ _ _ _ _
      | exact ih2 _ _ _ _ _ _ _ _ _
      | exact LeO.none _
      | refine LeO.ite ?_ ?_
      | refine LeO.bind ?_ (fun _ => ?_)
theorem spec_brAll.mono : ∀ a0 a1 a2 k, LeO (spec_brAll.f k a0 a1 a2) (spec_brAll.f (k + 1) a0 a1 a2) := by
  intro a0 a1 a2 k
  obtain ⟨ih0, ih1, ih2⟩ := spec_brAll.mono_l k
  unfold spec_brAll.f
  repeat' first
      | (with_reducible exact ih0 _ _ _ _)
      | (with_reducible exact ih1 _ _ _ _ _)
      | (with_reducible exact ih2 _ _ _ _ _ _ _ _ _)
      | (with_reducible exact LeO.refl _)
      | (with_reducible exact LeO.none _)
      | (with_reducible refine LeO.ite ?_ ?_)
      | (with_reducible refine LeO.bind ?_ (fun _ => ?_))
      | exact ih0 _ _ _ _
      | exact ih1 _ _ _ _ _
      | exact ih2 _ _ _ _ _ _ _ _ _
      | exact LeO.none _
      | refine LeO.ite ?_ ?_
      | refine LeO.bind ?_ (fun _ => ?_)
def spec_brAll.T8 : Bool × List (List Nat × List Nat) := (true, [([], []), ([0], [0]), ([], []), ([2], [2]), ([3], [3]), ([1, 4], [1, 4]), ([5], [5]), ([6, 5], [6]), ([7], [7]), ([7], [7]), ([9, 7], [7, 9]), ([8, 10, 7], [7, 8, 10]), ([11, 7], [7, 11]), ([7], [7]), ([13, 7], [7, 13]), ([7], [7]), ([15, 7], [7, 15]), ([12, 14, 16, 7, 7], [7, 12, 14, 16]), ([17, 7], [7, 17]), ([7, 18], [7, 18])])
def spec_brAll.B8 : List Nat := [0, 1, 0, 4, 12, 31, 63, 127, 255, 255, 767, 2047, 4095, 255, 8447, 255, 33023, 131071, 262143, 524287]
theorem spec_brAll.tab8 : rtab .any (opsOf Try.f54 8) = spec_brAll.T8 := by kernel_rfl
theorem spec_brAll.bits8 : waitsOk spec_brAll.T8.2 spec_brAll.B8 = true := by kernel_rfl
def spec_brAll.T10 : Bool × List (List Nat × List Nat) := (true, [([], []), ([], []), ([], []), ([2], [2]), ([1, 3], [1, 3]), ([4], [4]), ([], []), ([6], [6]), ([5, 7], [5, 7]), ([0, 8], [0, 8]), ([9, 8, 0, 1, 2, 3, 4, 5, 6, 7, 8, 9], [0, 9])])
def spec_brAll.B10 : List Nat := [0, 0, 0, 4, 14, 30, 0, 64, 254, 511, 1023]
theorem spec_brAll.tab10 : rtab .any (opsOf Try.f54 10) = spec_brAll.T10 := by kernel_rfl
theorem spec_brAll.bits10 : waitsOk spec_brAll.T10.2 spec_brAll.B10 = true := by kernel_rfl
def spec_brAll.T11 : Bool × List (List Nat × List Nat) := (true, [([], []), ([], []), ([1], [1]), ([0, 2], [0, 2]), ([3], [3]), ([], []), ([5], [5]), ([], []), ([7], [7]), ([4, 6, 8], [4, 6, 8]), ([9], [9]), ([10], [10]), ([10], [10]), ([], []), ([], []), ([13, 11, 9, 0, 1, 2, 3, 4, 5, 6, 7, 8, 9, 10, 11, 13, 14], [11, 13]), ([14, 12, 15, 0, 1, 2, 3, 4, 5, 6, 7, 8, 9, 10, 11, 12, 13, 14, 15], [12, 14])])
def spec_brAll.B11 : List Nat := [0, 0, 2, 7, 15, 0, 32, 0, 128, 511, 1023, 2047, 2047, 0, 0, 28671, 65535]
theorem spec_brAll.tab11 : rtab .any (opsOf Try.f54 11) = spec_brAll.T11 := by kernel_rfl
theorem spec_brAll.bits11 : waitsOk spec_brAll.T11.2 spec_brAll.B11 = true := by kernel_rfl
set_option maxHeartbeats 8000000 in
set_option maxRecDepth 100000 in
theorem spec_brAll.calls (k : Nat) (a0_0 : Int) (a0_1 : Int) (A1 : Option Addr) (c1 : Nat) (l1 : List (S57)) (r1 : List (S26)) (r2 : Int) (r3 : Bool) (w : World) (hr1 : Kd.C k57 w A1 l1.length l1) (hc1 : l1.length ≤ c1) (h : spec_brAll.f k a0_0 a0_1 l1 = some (r1, r2, r3)) :
    Calls Try.prog 54 #[.agg #[.int .i64 a0_0, .int .i64 a0_1], .slice A1 l1.length c1] w fun e w' => ∃ v0_ : Value, e = .returned (.tuple #[v0_, .int .i64 r2, .bool r3]) ∧ Kd.R k26 26 w' w.heap.size (fun _ => True) v0_ r1 ∧ Below w.heap.size w w' := by
  have hu26 := Try.underlying26
  have hu57 := Try.underlying57
  have HR1 := Aside0.mk hr1
  have HC1 := Aside0.mk hc1
  clear hr1 hc1
  have HB := Aside0.mk (Below.refl w.heap.size w)
  have H : ((spec_brGood.f a0_0 a0_1).bind fun t357 => (if t357 = true then (spec_brAll.j0 k l1 (decide ((l1.length : Int) > 144)) a0_0 a0_1) else (spec_brAll.j0 k l1 true a0_0 a0_1))) = some (r1, r2, r3) := h
  clear h
  have HC3 := Aside0.mk H
  clear H
  go_enter Try.func54, Try.ntmps54
  go_upto_region 1 with (first | ((with_reducible refine gate_dst (N := 2) rfl ?_); (try (refine gate_guard (by rfl) ?_; dsimp only)); refine box_event ?hg (N := 2) ?hd (cs := #[.int .i64 a0_0, .int .i64 a0_1]) (t := 26) ?hr ?_; (case hd => rfl); (case hg => rfl); (case hr => first | (go_simp; done) | (go_simp; rfl)); intro gb356 hg w4 hbox hb; have n0_ := Aside0.mk (below_step (by repeat (first | (with_reducible first | exact HB.out | apply below_alloc | apply pw_below_drewN | apply below_drew1) | exact HB.out)) hb); have n1_ := Aside0.mk (hbox); have n2_ := Aside0.mk ((by rw [hg]; exact (below_size (by repeat (first | (with_reducible first | exact HB.out | apply below_alloc | apply pw_below_drewN | apply below_drew1) | exact HB.out))) : w.heap.size ≤ gb356)); have n3_ := Aside0.mk ((by rw [hg]; exact (below_size (by repeat (first | (with_reducible first | exact HB.out | apply below_alloc | apply pw_below_drewN | apply below_drew1) | exact HB.out))) : w.heap.size ≤ gb356)); clear HB; have HB := n0_; have BK356 := n1_; have GW356 := n2_; have GE356 := n3_; clear n0_ n1_ n2_ n3_; clear hb hbox hg))
  (try simp only [Act.put, List.setIfInBounds_toArray, List.set_cons_zero, List.set_cons_succ])
  go_cut [20] (fun v20 wc => ∃ (kq : Nat) (x20_2 : Bool), v20 = .bool x20_2 ∧ Aside0 (spec_brAll.j0 kq l1 x20_2 a0_0 a0_1 = some (r1, r2, r3)) ∧ Aside0 (kq ≤ k) ∧ Aside0 (wc.heap[gb356]? = some (.cells #[.int .i64 a0_0, .int .i64 a0_1] 26 (0, 0))) ∧ Aside0 (Below w.heap.size w wc))
  case first =>
    have H := HC3.out
    clear HC3
    replace H := Option.bind_eq_some_iff.mp H
    obtain ⟨t357, A50, H⟩ := H
    replace H : (if t357 = true then (spec_brAll.j0 k l1 (decide ((l1.length : Int) > 144)) a0_0 a0_1) else (spec_brAll.j0 k l1 true a0_0 a0_1)) = some (r1, r2, r3) := H
    have A5 := Aside0.mk A50
    clear A50
    by_cases c6 : t357 = true
    · subst c6
      have H1 : (spec_brAll.j0 k l1 (decide ((l1.length : Int) > 144)) a0_0 a0_1) = some (r1, r2, r3) := by rw [if_pos rfl] at H; exact H
      clear H
      have H := H1
      clear H1
      have H' := Aside0.mk H
      clear H
      have hcz7_0 : w4.cell? ⟨gb356, 0, none⟩ = some (.int .i64 a0_0) := (blk_cell BK356.out 0).trans rfl
      have hcz7_1 : w4.cell? ⟨gb356, 1, none⟩ = some (.int .i64 a0_1) := (blk_cell BK356.out 1).trans rfl
      have hfz7_0 := blk_frozen BK356.out 0
      have hfz7_1 := blk_frozen BK356.out 1
      go_wp2_with (first | ((with_reducible refine gate_callee (f := 45) rfl ?_); refine goesL_ (some 14) rfl rfl Try.func45 (by kernel_rfl) rfl #[.agg #[.int .i64 a0_0, .int .i64 a0_1]] rfl (by (try simp only [List.map_toArray, List.map_cons, List.map_nil]); first | done | rfl | (simp only [List.length_drop, List.length_take]; rfl)) ?_; (with_reducible refine (spec_brGood.calls a0_0 a0_1 true _ A5.out).mono ?_); rintro e w8 ⟨rfl, hb⟩; refine ⟨_, rfl, ?_⟩; have n0_ := Aside0.mk (blk_below (g := gb356) (o := .cells #[.int .i64 a0_0, .int .i64 a0_1] 26 (0, 0)) (by (with_reducible repeat (first | refine blk_drewN ?_ _ | refine blk_drew ?_ | refine blk_alloc ?_ _)); exact BK356.out) hb); have n1_ := Aside0.mk (below_step (by repeat (first | (with_reducible first | exact HB.out | apply below_alloc | apply pw_below_drewN | apply below_drew1 | refine below_set ?_ GE356.out) | exact HB.out)) hb); clear BK356; clear HB; have BK356 := n0_; have HB := n1_; clear n0_ n1_; (try clear hb); (try clear hb2); (try clear hk); (try clear hi)))
      go_meet
      case rel => exact ⟨_, (decide ((l1.length : Int) > 144)), (by first | rfl | (simp; done) | (simp [*]; done)), H', ⟨by first | omega | exact Nat.le_refl _⟩, ⟨by (with_reducible repeat (first | refine blk_drewN ?_ _ | refine blk_drew ?_ | refine blk_alloc ?_ _)); exact BK356.out⟩, ⟨by repeat (first | (with_reducible first | exact HB.out | apply below_alloc | apply pw_below_drewN | apply below_drew1 | refine below_set ?_ GE356.out) | exact HB.out)⟩⟩
    · replace c6 := Bool.eq_false_iff.mpr c6
      subst c6
      have H1 : (spec_brAll.j0 k l1 true a0_0 a0_1) = some (r1, r2, r3) := by rw [if_neg (show ¬ (false = true) by decide)] at H; exact H
      clear H
      have H := H1
      clear H1
      have H' := Aside0.mk H
      clear H
      have hcz9_0 : w4.cell? ⟨gb356, 0, none⟩ = some (.int .i64 a0_0) := (blk_cell BK356.out 0).trans rfl
      have hcz9_1 : w4.cell? ⟨gb356, 1, none⟩ = some (.int .i64 a0_1) := (blk_cell BK356.out 1).trans rfl
      have hfz9_0 := blk_frozen BK356.out 0
      have hfz9_1 := blk_frozen BK356.out 1
      go_wp2_with (first | ((with_reducible refine gate_callee (f := 45) rfl ?_); refine goesL_ (some 14) rfl rfl Try.func45 (by kernel_rfl) rfl #[.agg #[.int .i64 a0_0, .int .i64 a0_1]] rfl (by (try simp only [List.map_toArray, List.map_cons, List.map_nil]); first | done | rfl | (simp only [List.length_drop, List.length_take]; rfl)) ?_; (with_reducible refine (spec_brGood.calls a0_0 a0_1 false _ A5.out).mono ?_); rintro e w10 ⟨rfl, hb⟩; refine ⟨_, rfl, ?_⟩; have n0_ := Aside0.mk (blk_below (g := gb356) (o := .cells #[.int .i64 a0_0, .int .i64 a0_1] 26 (0, 0)) (by (with_reducible repeat (first | refine blk_drewN ?_ _ | refine blk_drew ?_ | refine blk_alloc ?_ _)); exact BK356.out) hb); have n1_ := Aside0.mk (below_step (by repeat (first | (with_reducible first | exact HB.out | apply below_alloc | apply pw_below_drewN | apply below_drew1 | refine below_set ?_ GE356.out) | exact HB.out)) hb); clear BK356; clear HB; have BK356 := n0_; have HB := n1_; clear n0_ n1_; (try clear hb); (try clear hb2); (try clear hk); (try clear hi)))
      go_meet
      case rel => exact ⟨_, (true), (by first | rfl | (simp; done) | (simp [*]; done)), H', ⟨by first | omega | exact Nat.le_refl _⟩, ⟨by (with_reducible repeat (first | refine blk_drewN ?_ _ | refine blk_drew ?_ | refine blk_alloc ?_ _)); exact BK356.out⟩, ⟨by repeat (first | (with_reducible first | exact HB.out | apply below_alloc | apply pw_below_drewN | apply below_drew1 | refine below_set ?_ GE356.out) | exact HB.out)⟩⟩
  case rest =>
    clear HC3
    try clear c1
    try clear p2
    try clear c4
    try clear c5
    try clear c6
    try clear hcz7_0
    try clear hcz7_1
    try clear hcz9_0
    try clear hcz9_1
    try clear hfz7_0
    try clear hfz7_1
    try clear hfz9_0
    try clear hfz9_1
    obtain ⟨kq, x20_2, rfl, HA, HJ2, BK356, HB⟩ := hcut
    cases kq with
    | zero => exact absurd HA.out (by simp [spec_brAll.j0])
    | succ kj2 =>
      have H := HA.out
      clear HA
      simp only [spec_brAll.j0] at H
      by_cases c11 : x20_2 = true
      · subst c11
        have H1 : (some (([] : List (S26)), 0, false)) = some (r1, r2, r3) := by rw [if_pos rfl] at H; exact H
        clear H
        have H := H1
        clear H1
        simp only [Option.some.injEq, Prod.mk.injEq] at H
        obtain ⟨rfl, rfl, rfl⟩ := H
        go_wp2
        go_ret3
        exact ⟨_, by first | rfl | (simp [errW_none, errW_some] <;> rfl) | (simp [*, errW_none, errW_some] <;> rfl), by first | exact Kd.R_nil _ _ _ _ _ | exact Kd.N_nil _ _ _ _ _ | exact Kd.V_nil _ _ _ _ _ | exact Kd.Q_nil _ _ _ _ _ | exact Kd.S_nil _ _ _ _ _, by repeat (first | (with_reducible first | exact HB.out | apply below_alloc | apply pw_below_drewN | apply below_drew1 | refine below_set ?_ GE356.out) | exact HB.out)⟩
      · replace c11 := Bool.eq_false_iff.mpr c11
        subst c11
        have H1 : (spec_brAll.l0 kj2 (([(⟨a0_0, a0_1⟩ : S26)] : List (S26))) 0 l1 (l1.length : Int) 0) = some (r1, r2, r3) := by rw [if_neg (show ¬ (false = true) by decide)] at H; exact H
        clear H
        have H := H1
        clear H1
        obtain ⟨y358, hy358⟩ : ∃ y_ : List (S26), y_ = (([(⟨a0_0, a0_1⟩ : S26)] : List (S26))) := ⟨_, rfl⟩
        replace H : (spec_brAll.l0 kj2 y358 0 l1 (l1.length : Int) 0) = some (r1, r2, r3) := by first | (rw [hy358]; with_reducible exact H) | (have H2_ := (Option.bind_some _ _).symm.trans H; rw [hy358]; with_reducible exact H2_) | (have H2_ := (Option.bind_some _ _).symm.trans H; with_reducible exact H2_) | with_reducible exact H | (rw [hy358]; exact H) | exact H
        have Ny358 := Aside0.mk hy358
        clear hy358
        have H' := Aside0.mk H
        clear H
        have hcz12_0 : wc.cell? ⟨gb356, 0, none⟩ = some (.int .i64 a0_0) := (blk_cell BK356.out 0).trans rfl
        have hcz12_1 : wc.cell? ⟨gb356, 1, none⟩ = some (.int .i64 a0_1) := (blk_cell BK356.out 1).trans rfl
        have hfz12_0 := blk_frozen BK356.out 0
        have hfz12_1 := blk_frozen BK356.out 1
        go_wp2_with (first | ((with_reducible refine gate_dst (N := 22) rfl ?_); (try (refine gate_guard (by rfl) ?_; dsimp only)); refine Kd.R_lit k26 _ 26 ?hg (N := 22) ?hd (xs := ([(⟨a0_0, a0_1⟩ : S26)] : List (S26))) (inner := [.int .i64 a0_0, .int .i64 a0_1]) (ok := fun _ => True) (okp := fun _ => True) ?hr ?hp (fun _ hk => hk) trivial (Below.refl _ _) (Nat.le_refl _) (by simp) ?_; (case hd => rfl); (case hg => rfl); (case hr => first | (go_simp; done) | (go_simp; rfl)); (case hp => exact (Reps.c2 (show Kd.M k26 _ _ _ (⟨a0_0, a0_1⟩ : S26) [.int .i64 a0_0, .int .i64 a0_1] from (k26_mkM _ _ _ (⟨a0_0, a0_1⟩ : S26) )) (Reps.none _ _))); intro v359 w13 ho14 hb hg_ hnew_; clear hg_ hnew_; (first | rw [← Ny358.out] at ho14 | (simp only [Int.reduceToNat] at ho14; rw [← Ny358.out] at ho14)); have n0_ := Aside0.mk (Kd.R_lower (Kd.R_newB ho14 (g := gb356) (o := .cells #[.int .i64 a0_0, .int .i64 a0_1] 26 (0, 0)) (by (with_reducible repeat (first | refine blk_drewN ?_ _ | refine blk_drew ?_ | refine blk_alloc ?_ _)); exact BK356.out)) (below_size (by repeat (first | (with_reducible first | exact HB.out | apply below_alloc | apply pw_below_drewN | apply below_drew1 | refine below_set ?_ GE356.out) | exact HB.out)))); have n1_ := Aside0.mk (blk_below (g := gb356) (o := .cells #[.int .i64 a0_0, .int .i64 a0_1] 26 (0, 0)) (by (with_reducible repeat (first | refine blk_drewN ?_ _ | refine blk_drew ?_ | refine blk_alloc ?_ _)); exact BK356.out) hb); have n2_ := Aside0.mk (below_step (by repeat (first | (with_reducible first | exact HB.out | apply below_alloc | apply pw_below_drewN | apply below_drew1 | refine below_set ?_ GE356.out) | exact HB.out)) hb); clear BK356; clear HB; have HO360 := n0_; have BK356 := n1_; have HB := n2_; clear n0_ n1_ n2_; clear hb ho14))
        go_loopg [7, 8, 25] kj2 (fun kq v7 v8 v25 w' => ∃ (x7_2 : List (S26)) (x8_2 : Int) (x25_2 : Int) (x357000_2 : Int) (x357001_2 : Int), v8 = .int .i64 x8_2 ∧ v25 = .int .i64 x25_2 ∧ Aside0 (spec_brAll.l0 kq x7_2 x8_2 l1 (l1.length : Int) x25_2 = some (r1, r2, r3)) ∧ Aside0 (kq ≤ kj2) ∧ Aside0 (Kd.R k26 26 w' w.heap.size (fun k_ => k_ ≠ gb356) v7 x7_2) ∧ Aside0 (w'.heap[gb356]? = some (.cells #[.int .i64 x357000_2, .int .i64 x357001_2] 26 (0, 0))) ∧ Aside0 (Below w.heap.size w w'))
        case atStart => exact ⟨(y358), (0), (0), (a0_0), (a0_1), (by first | rfl | (simp; done) | (simp [*]; done)), (by first | rfl | (simp; done) | (simp [*]; done)), H', ⟨Nat.le_refl _⟩, ⟨by (with_reducible repeat (first | apply Kd.R_alloc | apply Kd.R_drewN | apply Kd.R_drew)); exact Kd.R_mono HO360.out (fun _ hk => hk.2)⟩, ⟨by (with_reducible repeat (first | refine blk_drewN ?_ _ | refine blk_drew ?_ | refine blk_alloc ?_ _)); exact BK356.out⟩, ⟨by repeat (first | (with_reducible first | exact HB.out | apply below_alloc | apply pw_below_drewN | apply below_drew1 | refine below_set ?_ GE356.out) | exact HB.out)⟩⟩
        case round =>
          clear H'
          try clear c1
          try clear c2
          try clear p2
          try clear c4
          try clear c5
          try clear c6
          try clear c11
          try clear hcz12_0
          try clear hcz12_1
          try clear hcz7_0
          try clear hcz7_1
          try clear hcz9_0
          try clear hcz9_1
          try clear hfz12_0
          try clear hfz12_1
          try clear hfz7_0
          try clear hfz7_1
          try clear hfz9_0
          try clear hfz9_1
          try clear p2
          obtain ⟨x7_2, x8_2, x25_2, x357000_2, x357001_2, rfl, rfl, HA, HK2, HO_7, BK356, HB⟩ := hrel
          cases gk with
          | zero => exact absurd HA.out (by simp [spec_brAll.l0])
          | succ k2 =>
            have H := HA.out
            clear HA
            simp only [spec_brAll.l0] at H
            by_cases c15 : x25_2 < (l1.length : Int)
            · rw [if_pos c15] at H
              have c15b0 : decide (x25_2 < (l1.length : Int)) = true := decide_eq_true c15
              clear c15
              by_cases c16 : 0 ≤ x25_2
              · rw [if_pos c16] at H
                have c16b0 : decide (0 ≤ x25_2) = true := decide_eq_true c16
                clear c16
                by_cases c17 : x25_2 < (l1.length : Int)
                · rw [if_pos c17] at H
                  have c17b0 : decide (x25_2 < (l1.length : Int)) = true := decide_eq_true c17
                  clear c17
                  have HC18 := Aside0.mk H
                  clear H
                  have p361 : 0 ≤ (x25_2 : Int) := of_decide_eq_true (by first | (with_reducible assumption) | assumption)
                  have q361 : x25_2 < (l1.length : Int) := of_decide_eq_true (by first | (with_reducible assumption) | assumption)
                  obtain ⟨ad361, e361, hx361_0, hx361_1, hx361_2⟩ := at_T57 HR1.out x25_2 p361 q361
                  cases e361
                  replace hx361_0 := (HB.out.cell (World.block_lt_of_cell? w _ hx361_0)).trans hx361_0
                  replace hx361_1 := (HB.out.cell (World.block_lt_of_cell? w _ hx361_1)).trans hx361_1
                  replace hx361_2 := (HB.out.cell (World.block_lt_of_cell? w _ hx361_2)).trans hx361_2
                  replace p361 := eq_true p361
                  replace q361 := eq_true q361
                  go_upto_region 8 with (first | ((with_reducible refine gate_dst (N := 10) rfl ?_); (try (refine gate_guard (by rfl) ?_; dsimp only)); refine box_event ?hg (N := 10) ?hd (cs := #[.int .i64 0, .bool false, .int .i64 0]) (t := 57) ?hr ?_; (case hd => rfl); (case hg => rfl); (case hr => first | (go_simp; done) | (go_simp; rfl)); intro gb362 hg w19 hbox hb; have n0_ := Aside0.mk (Kd.R_below (by (with_reducible repeat (first | apply Kd.R_alloc | apply Kd.R_drewN | apply Kd.R_drew)); exact HO_7.out) hb); have n1_ := Aside0.mk (blk_below (g := gb356) (o := .cells #[.int .i64 x357000_2, .int .i64 x357001_2] 26 (0, 0)) (by (with_reducible repeat (first | refine blk_drewN ?_ _ | refine blk_drew ?_ | refine blk_alloc ?_ _)); exact BK356.out) hb); have n2_ := Aside0.mk (below_step (by repeat (first | (with_reducible first | exact HB.out | apply below_alloc | apply pw_below_drewN | apply below_drew1 | refine below_set ?_ GE356.out) | exact HB.out)) hb); have n3_ := Aside0.mk (hbox); have n4_ := Aside0.mk ((by rw [hg]; exact (below_size (by repeat (first | (with_reducible first | exact HB.out | apply below_alloc | apply pw_below_drewN | apply below_drew1 | refine below_set ?_ GE356.out) | exact HB.out))) : w.heap.size ≤ gb362)); have n5_ := Aside0.mk ((by rw [hg]; exact (below_size (by repeat (first | (with_reducible first | exact HB.out | apply below_alloc | apply pw_below_drewN | apply below_drew1 | refine below_set ?_ GE356.out) | exact HB.out))) : w.heap.size ≤ gb362)); have n6_ := Aside0.mk ((by rw [hg]; exact Nat.ne_of_lt (blk_lt (g := gb356) (o := .cells #[.int .i64 x357000_2, .int .i64 x357001_2] 26 (0, 0)) (by (with_reducible repeat (first | refine blk_drewN ?_ _ | refine blk_drew ?_ | refine blk_alloc ?_ _)); exact BK356.out)) : gb356 ≠ gb362)); have n7_ := Aside0.mk ((by rw [hg]; exact Nat.ne_of_gt (blk_lt (g := gb356) (o := .cells #[.int .i64 x357000_2, .int .i64 x357001_2] 26 (0, 0)) (by (with_reducible repeat (first | refine blk_drewN ?_ _ | refine blk_drew ?_ | refine blk_alloc ?_ _)); exact BK356.out)) : gb362 ≠ gb356)); clear HO_7; clear BK356; clear HB; have HO_7 := n0_; have BK356 := n1_; have HB := n2_; have BK362 := n3_; have GW362 := n4_; have GE362 := n5_; have NB356_362 := n6_; have NB362_356 := n7_; clear n0_ n1_ n2_ n3_ n4_ n5_ n6_ n7_; clear hb hbox hg; have hnb20 := NB362_356.out; have hnc20 := NB356_362.out; have hcz21_0 : w19.cell? ⟨gb362, 0, none⟩ = some (.int .i64 0) := (blk_cell BK362.out 0).trans rfl; have hcz21_1 : w19.cell? ⟨gb362, 1, none⟩ = some (.bool false) := (blk_cell BK362.out 1).trans rfl; have hcz21_2 : w19.cell? ⟨gb362, 2, none⟩ = some (.int .i64 0) := (blk_cell BK362.out 2).trans rfl; have hfz21_0 := blk_frozen BK362.out 0; have hfz21_1 := blk_frozen BK362.out 1; have hfz21_2 := blk_frozen BK362.out 2))
                  (try simp only [Act.put, List.setIfInBounds_toArray, List.set_cons_zero, List.set_cons_succ])
                  go_cut [48] (fun v48 wc => ∃ (kq : Nat) (x48_17 : Bool), v48 = .bool x48_17 ∧ Aside0 (spec_brAll.j2 kq x7_2 x8_2 l1 (l1.length : Int) x25_2 x48_17 ((rd_T57 l1 x25_2).f0) ((rd_T57 l1 x25_2).f1) ((rd_T57 l1 x25_2).f2) = some (r1, r2, r3)) ∧ Aside0 (kq ≤ k2) ∧ Aside0 (Kd.R k26 26 wc w.heap.size (fun k_ => k_ ≠ gb356) u7 x7_2) ∧ Aside0 (wc.heap[gb356]? = some (.cells #[.int .i64 x357000_2, .int .i64 x357001_2] 26 (0, 0))) ∧ Aside0 (wc.heap[gb362]? = some (.cells #[.int .i64 ((rd_T57 l1 x25_2).f0), .bool ((rd_T57 l1 x25_2).f1), .int .i64 ((rd_T57 l1 x25_2).f2)] 57 (0, 0))) ∧ Aside0 (Below w.heap.size w wc))
                  case first =>
                    have H := HC18.out
                    clear HC18
                    replace H := Option.bind_eq_some_iff.mp H
                    obtain ⟨t363, A220, H⟩ := H
                    replace H : (if t363 = true then (if 0 ≤ ((rd_T57 l1 x25_2).f0) then (if ((rd_T57 l1 x25_2).f0) < (x7_2.length : Int) then ((spec_brCan.f ((rd_T26 x7_2 ((rd_T57 l1 x25_2).f0)).f0) ((rd_T26 x7_2 ((rd_T57 l1 x25_2).f0)).f1) ((rd_T57 l1 x25_2).f1) ((rd_T57 l1 x25_2).f2)).bind fun t365 => (spec_brAll.j2 k2 x7_2 x8_2 l1 (l1.length : Int) x25_2 (!t365) ((rd_T57 l1 x25_2).f0) ((rd_T57 l1 x25_2).f1) ((rd_T57 l1 x25_2).f2))) else (none)) else (none)) else (spec_brAll.j2 k2 x7_2 x8_2 l1 (l1.length : Int) x25_2 true ((rd_T57 l1 x25_2).f0) ((rd_T57 l1 x25_2).f1) ((rd_T57 l1 x25_2).f2))) = some (r1, r2, r3) := H
                    have A22 := Aside0.mk A220
                    clear A220
                    by_cases c23 : t363 = true
                    · subst c23
                      have H1 : (if 0 ≤ ((rd_T57 l1 x25_2).f0) then (if ((rd_T57 l1 x25_2).f0) < (x7_2.length : Int) then ((spec_brCan.f ((rd_T26 x7_2 ((rd_T57 l1 x25_2).f0)).f0) ((rd_T26 x7_2 ((rd_T57 l1 x25_2).f0)).f1) ((rd_T57 l1 x25_2).f1) ((rd_T57 l1 x25_2).f2)).bind fun t365 => (spec_brAll.j2 k2 x7_2 x8_2 l1 (l1.length : Int) x25_2 (!t365) ((rd_T57 l1 x25_2).f0) ((rd_T57 l1 x25_2).f1) ((rd_T57 l1 x25_2).f2))) else (none)) else (none)) = some (r1, r2, r3) := by rw [if_pos rfl] at H; exact H
                      clear H
                      have H := H1
                      clear H1
                      by_cases c24 : 0 ≤ ((rd_T57 l1 x25_2).f0)
                      · rw [if_pos c24] at H
                        have c24b0 : decide (0 ≤ ((rd_T57 l1 x25_2).f0)) = true := decide_eq_true c24
                        clear c24
                        (first | rw [c24b0] | (simp only [i64_w, i32_w]; rw [c24b0]) | skip)
                        by_cases c25 : ((rd_T57 l1 x25_2).f0) < (x7_2.length : Int)
                        · rw [if_pos c25] at H
                          have c25b0 : decide (((rd_T57 l1 x25_2).f0) < (x7_2.length : Int)) = true := decide_eq_true c25
                          clear c25
                          replace H := Option.bind_eq_some_iff.mp H
                          obtain ⟨t365, A260, H⟩ := H
                          replace H : (spec_brAll.j2 k2 x7_2 x8_2 l1 (l1.length : Int) x25_2 (!t365) ((rd_T57 l1 x25_2).f0) ((rd_T57 l1 x25_2).f1) ((rd_T57 l1 x25_2).f2)) = some (r1, r2, r3) := H
                          have A26 := Aside0.mk A260
                          clear A260
                          have H' := Aside0.mk H
                          clear H
                          try go_wp2
                          have n0_ : Aside0 (Kd.R k26 26 (((w19.setCell ⟨gb362, 0, none⟩ (.int .i64 ((rd_T57 l1 x25_2).f0))).setCell ⟨gb362, 1, none⟩ (.bool ((rd_T57 l1 x25_2).f1))).setCell ⟨gb362, 2, none⟩ (.int .i64 ((rd_T57 l1 x25_2).f2))) w.heap.size (fun k_ => k_ ≠ gb356) u7 x7_2) := ⟨by (with_reducible repeat (first | apply Kd.R_alloc | apply Kd.R_drewN | apply Kd.R_drew)); exact Kd.R_mono (Kd.R_far (p := ⟨gb362, 2, none⟩) (Kd.R_far (p := ⟨gb362, 1, none⟩) (Kd.R_far (p := ⟨gb362, 0, none⟩) (Kd.R_types HO_7.out BK362.out (by decide)) (fun _ hk => hk.2) (.int .i64 ((rd_T57 l1 x25_2).f0))) (fun _ hk => hk.2) (.bool ((rd_T57 l1 x25_2).f1))) (fun _ hk => hk.2) (.int .i64 ((rd_T57 l1 x25_2).f2))) (fun _ hk => hk.1)⟩
                          have n1_ : Aside0 ((((w19.setCell ⟨gb362, 0, none⟩ (.int .i64 ((rd_T57 l1 x25_2).f0))).setCell ⟨gb362, 1, none⟩ (.bool ((rd_T57 l1 x25_2).f1))).setCell ⟨gb362, 2, none⟩ (.int .i64 ((rd_T57 l1 x25_2).f2))).heap[gb356]? = some (.cells #[.int .i64 x357000_2, .int .i64 x357001_2] 26 (0, 0))) := ⟨by (with_reducible repeat (first | refine blk_drewN ?_ _ | refine blk_drew ?_ | refine blk_alloc ?_ _)); refine blk_far ?_ NB356_362.out _; (with_reducible repeat (first | refine blk_drewN ?_ _ | refine blk_drew ?_ | refine blk_alloc ?_ _)); refine blk_far ?_ NB356_362.out _; (with_reducible repeat (first | refine blk_drewN ?_ _ | refine blk_drew ?_ | refine blk_alloc ?_ _)); refine blk_far ?_ NB356_362.out _; (with_reducible repeat (first | refine blk_drewN ?_ _ | refine blk_drew ?_ | refine blk_alloc ?_ _)); exact BK356.out⟩
                          have n2_ : Aside0 ((((w19.setCell ⟨gb362, 0, none⟩ (.int .i64 ((rd_T57 l1 x25_2).f0))).setCell ⟨gb362, 1, none⟩ (.bool ((rd_T57 l1 x25_2).f1))).setCell ⟨gb362, 2, none⟩ (.int .i64 ((rd_T57 l1 x25_2).f2))).heap[gb362]? = some (.cells #[.int .i64 ((rd_T57 l1 x25_2).f0), .bool ((rd_T57 l1 x25_2).f1), .int .i64 ((rd_T57 l1 x25_2).f2)] 57 (0, 0))) := ⟨by (with_reducible repeat (first | refine blk_drewN ?_ _ | refine blk_drew ?_ | refine blk_alloc ?_ _)); refine blk_put (cs := #[.int .i64 ((rd_T57 l1 x25_2).f0), .bool ((rd_T57 l1 x25_2).f1), .int .i64 0]) ?_ 2 _ rfl; (with_reducible repeat (first | refine blk_drewN ?_ _ | refine blk_drew ?_ | refine blk_alloc ?_ _)); refine blk_put (cs := #[.int .i64 ((rd_T57 l1 x25_2).f0), .bool false, .int .i64 0]) ?_ 1 _ rfl; (with_reducible repeat (first | refine blk_drewN ?_ _ | refine blk_drew ?_ | refine blk_alloc ?_ _)); refine blk_put (cs := #[.int .i64 0, .bool false, .int .i64 0]) ?_ 0 _ rfl; (with_reducible repeat (first | refine blk_drewN ?_ _ | refine blk_drew ?_ | refine blk_alloc ?_ _)); exact BK362.out⟩
                          have n3_ : Aside0 (Below w.heap.size w (((w19.setCell ⟨gb362, 0, none⟩ (.int .i64 ((rd_T57 l1 x25_2).f0))).setCell ⟨gb362, 1, none⟩ (.bool ((rd_T57 l1 x25_2).f1))).setCell ⟨gb362, 2, none⟩ (.int .i64 ((rd_T57 l1 x25_2).f2)))) := ⟨by repeat (first | (with_reducible first | exact HB.out | apply below_alloc | apply pw_below_drewN | apply below_drew1 | refine below_set ?_ GE356.out | refine below_set ?_ GE362.out) | exact HB.out)⟩
                          (try clear HO_7)
                          (try clear BK356)
                          (try clear BK362)
                          (try clear HB)
                          generalize (((w19.setCell ⟨gb362, 0, none⟩ (.int .i64 ((rd_T57 l1 x25_2).f0))).setCell ⟨gb362, 1, none⟩ (.bool ((rd_T57 l1 x25_2).f1))).setCell ⟨gb362, 2, none⟩ (.int .i64 ((rd_T57 l1 x25_2).f2))) = w27 at n0_ n1_ n2_ n3_ ⊢
                          have HO_7 := n0_
                          have BK356 := n1_
                          have BK362 := n2_
                          have HB := n3_
                          clear n0_ n1_ n2_ n3_
                          have n0_ := Aside0.mk (Kd.R_drew HO_7.out)
                          have n1_ := Aside0.mk (blk_drew BK356.out)
                          have n2_ := Aside0.mk (blk_drew BK362.out)
                          have n3_ := Aside0.mk (below_drew1 HB.out)
                          clear HO_7
                          clear BK356
                          clear BK362
                          clear HB
                          have HO_7 := n0_
                          have BK356 := n1_
                          have BK362 := n2_
                          have HB := n3_
                          clear n0_ n1_ n2_ n3_
                          obtain ⟨Ao29, co29, eo29⟩ := Kd.R_slice HO_7.out
                          (first | subst eo29 | (injection eo29 with f1_ f2_ f3_; have f4_ := f1_.symm; have f5_ := f3_.symm; clear f1_ f2_ f3_; subst f4_; subst f5_))
                          have p364 : 0 ≤ (((rd_T57 l1 x25_2).f0) : Int) := of_decide_eq_true (by first | (with_reducible assumption) | assumption)
                          have q364 : ((rd_T57 l1 x25_2).f0) < (x7_2.length : Int) := of_decide_eq_true (by first | (with_reducible assumption) | assumption)
                          obtain ⟨ad364, e364, hx364_0, hx364_1⟩ := at_T26 (Kd.R_reads' HO_7.out).2.2 ((rd_T57 l1 x25_2).f0) p364 q364
                          cases e364
                          replace p364 := eq_true p364
                          replace q364 := eq_true q364
                          refine start_ (n := 20) (S := fun w' => w'.cell? ⟨gb362, 0, none⟩ = some (.int .i64 ((rd_T57 l1 x25_2).f0)) ∧ w'.cell? ⟨gb362, 1, none⟩ = some (.bool ((rd_T57 l1 x25_2).f1)) ∧ w'.cell? ⟨gb362, 2, none⟩ = some (.int .i64 ((rd_T57 l1 x25_2).f2)) ∧ w'.cell? (ad364.add ((((rd_T57 l1 x25_2).f0)).toNat * 2)) = some (.int .i64 ((rd_T26 x7_2 ((rd_T57 l1 x25_2).f0)).f0)) ∧ w'.cell? ⟨(ad364.add ((((rd_T57 l1 x25_2).f0)).toNat * 2)).block, (ad364.add ((((rd_T57 l1 x25_2).f0)).toNat * 2)).off + 1, none⟩ = some (.int .i64 ((rd_T26 x7_2 ((rd_T57 l1 x25_2).f0)).f1))) (ds := []) #[false, false, false, false, false, false, false, false, false, false, false, false, false, false, false, false, false, false, false, false] (by kernel_rfl) rfl rfl ⟨(blk_cell BK362.out 0).trans rfl, (blk_cell BK362.out 1).trans rfl, (blk_cell BK362.out 2).trans rfl, hx364_0, hx364_1⟩ (fun hHeld => ?_); refine with_tabW spec_brAll.tab8 spec_brAll.bits8 (fun HT_ HW_ => ?_)
                          generalize w27.drew = w28 at HO_7 BK356 BK362 HB hx364_0 hx364_1 hHeld ⊢
                          refine pure_ (i := 0) (N := some 29) (v := ?_) (a' := ?_) #[true, false, false, false, false, false, false, false, false, false, false, false, false, false, false, false, false, false, false, false] rfl rfl (any_of HT_.out (by kernel_rfl)) (fun _ _ _ h => h) (Or.inl ⟨by rfl, ?_⟩) ?_ ?_
                          rotate_left
                          · intro w'
                            go_simp
                            with_reducible rfl
                          rotate_left
                          · simp only [Act.put, List.setIfInBounds_toArray, List.set_cons_zero, List.set_cons_succ, i64_w, i32_w]
                            rfl
                          refine pure_ (i := 2) (N := some 31) (v := ?_) (a' := ?_) #[true, false, true, false, false, false, false, false, false, false, false, false, false, false, false, false, false, false, false, false] rfl rfl (any_of HT_.out (by kernel_rfl)) (fun _ _ _ h => h) (Or.inl ⟨by rfl, ?_⟩) ?_ ?_
                          rotate_left
                          · intro w'
                            go_simp
                            with_reducible rfl
                          rotate_left
                          · simp only [Act.put, List.setIfInBounds_toArray, List.set_cons_zero, List.set_cons_succ, i64_w, i32_w]
                            rfl
                          refine pure_ (i := 3) (N := some 32) (v := ?_) (a' := ?_) #[true, false, true, true, false, false, false, false, false, false, false, false, false, false, false, false, false, false, false, false] rfl rfl (any_of HT_.out (by kernel_rfl)) (fun _ _ _ h => h) (Or.inl ⟨by rfl, ?_⟩) ?_ ?_
                          rotate_left
                          · intro w'
                            go_simp
                            with_reducible rfl
                          rotate_left
                          · simp only [Act.put, List.setIfInBounds_toArray, List.set_cons_zero, List.set_cons_succ, i64_w, i32_w]
                            rfl
                          refine pure_ (i := 4) (N := some 33) (v := ?_) (a' := ?_) #[true, false, true, true, true, false, false, false, false, false, false, false, false, false, false, false, false, false, false, false] rfl rfl (any_of HT_.out (by kernel_rfl)) (fun _ _ _ h => h) (Or.inl ⟨by rfl, ?_⟩) ?_ ?_
                          rotate_left
                          · intro w'
                            go_simp
                            with_reducible rfl
                          rotate_left
                          · simp only [Act.put, List.setIfInBounds_toArray, List.set_cons_zero, List.set_cons_succ, i64_w, i32_w]
                            rfl
                          refine take_ (i := 1) (N := some 30) (v := ?_) (a' := ?_) #[true, true, true, true, true, false, false, false, false, false, false, false, false, false, false, false, false, false, false, false] rfl rfl (take_ofW HT_.out HW_.out (by kernel_rfl)) (fun _ _ _ h => h) (Or.inl ⟨by rfl, ?_⟩) hHeld ?_ ?_
                          rotate_left
                          · rintro w' ⟨s0, s1, s2, s3, s4⟩
                            go_simp
                            with_reducible rfl
                          rotate_left
                          · simp only [Act.put, List.setIfInBounds_toArray, List.set_cons_zero, List.set_cons_succ, i64_w, i32_w]
                            rfl
                          refine one_ (i := 5) (N := some 34) #[true, true, true, true, true, true, false, false, false, false, false, false, false, false, false, false, false, false, false, false] rfl rfl (one_of HT_.out (by kernel_rfl)) (by decide) (fun K hK => ?_)
                          refine goes_ Try.func51 (by kernel_rfl) rfl #[.int .i64 ((rd_T57 l1 x25_2).f0), .int .i64 0, .int .i64 (wrap64 ((x7_2.length : Int) - 1))] (by rfl) rfl rfl (by (try simp only [List.map_toArray, List.map_cons, List.map_nil]); first | done | rfl | (simp only [List.length_drop, List.length_take]; rfl)) ?_
                          with_reducible refine (spec_l1In.calls ((rd_T57 l1 x25_2).f0) 0 (wrap64 ((x7_2.length : Int) - 1)) true _ A22.out).mono ?_
                          rintro e w' ⟨rfl, ⟨nd, rfl⟩⟩
                          refine ⟨_, rfl, ?_⟩
                          refine hK.out _ _ ⟨(blk_cell BK362.out 0).trans rfl, (blk_cell BK362.out 1).trans rfl, (blk_cell BK362.out 2).trans rfl, hHeld.2.2.2.1, hHeld.2.2.2.2⟩ (fun hHeld => ?_)
                          clear hK K
                          refine norm_ (a' := ?_) ?_ ?_
                          rotate_left
                          · show Act.put _ (some 34) _ = _
                            simp only [Act.put, List.setIfInBounds_toArray, List.set_cons_zero, List.set_cons_succ, i64_w, i32_w]
                            rfl
                          refine pure_ (i := 6) (N := some 35) (v := ?_) (a' := ?_) #[true, true, true, true, true, true, true, false, false, false, false, false, false, false, false, false, false, false, false, false] rfl rfl (any_of HT_.out (by kernel_rfl)) (fun _ _ _ h => h) (Or.inl ⟨by rfl, ?_⟩) ?_ ?_
                          rotate_left
                          · intro w'
                            go_simp
                            with_reducible rfl
                          rotate_left
                          · simp only [Act.put, List.setIfInBounds_toArray, List.set_cons_zero, List.set_cons_succ, i64_w, i32_w]
                            rfl
                          refine pure_ (i := 7) (N := some 36) (v := ?_) (a' := ?_) #[true, true, true, true, true, true, true, true, false, false, false, false, false, false, false, false, false, false, false, false] rfl rfl (any_of HT_.out (by kernel_rfl)) (fun _ _ _ h => h) (Or.inl ⟨by rfl, ?_⟩) ?_ ?_
                          rotate_left
                          · intro w'
                            go_simp
                            with_reducible rfl
                          rotate_left
                          · simp only [Act.put, List.setIfInBounds_toArray, List.set_cons_zero, List.set_cons_succ, i64_w, i32_w]
                            rfl
                          refine pure_ (i := 8) (N := some 37) (v := ?_) (a' := ?_) #[true, true, true, true, true, true, true, true, true, false, false, false, false, false, false, false, false, false, false, false] rfl rfl (any_of HT_.out (by kernel_rfl)) (fun _ _ _ h => h) (Or.inl ⟨by rfl, ?_⟩) ?_ ?_
                          rotate_left
                          · intro w'
                            go_simp
                            with_reducible rfl
                          rotate_left
                          · simp only [Act.put, List.setIfInBounds_toArray, List.set_cons_zero, List.set_cons_succ, i64_w, i32_w]
                            rfl
                          refine pure_ (i := 9) (N := some 38) (v := ?_) (a' := ?_) #[true, true, true, true, true, true, true, true, true, true, false, false, false, false, false, false, false, false, false, false] rfl rfl (any_of HT_.out (by kernel_rfl)) (fun _ _ _ h => h) (Or.inl ⟨by rfl, ?_⟩) ?_ ?_
                          rotate_left
                          · intro w'
                            go_simp
                            with_reducible rfl
                          rotate_left
                          · simp only [Act.put, List.setIfInBounds_toArray, List.set_cons_zero, List.set_cons_succ, i64_w, i32_w]
                            rfl
                          refine pure_ (i := 13) (N := some 42) (v := ?_) (a' := ?_) #[true, true, true, true, true, true, true, true, true, true, false, false, false, true, false, false, false, false, false, false] rfl rfl (any_of HT_.out (by kernel_rfl)) (fun _ _ _ h => h) (Or.inl ⟨by rfl, ?_⟩) ?_ ?_
                          rotate_left
                          · intro w'
                            go_simp
                            with_reducible rfl
                          rotate_left
                          · simp only [Act.put, List.setIfInBounds_toArray, List.set_cons_zero, List.set_cons_succ, i64_w, i32_w]
                            rfl
                          refine pure_ (i := 15) (N := some 44) (v := ?_) (a' := ?_) #[true, true, true, true, true, true, true, true, true, true, false, false, false, true, false, true, false, false, false, false] rfl rfl (any_of HT_.out (by kernel_rfl)) (fun _ _ _ h => h) (Or.inl ⟨by rfl, ?_⟩) ?_ ?_
                          rotate_left
                          · intro w'
                            go_simp
                            with_reducible rfl
                          rotate_left
                          · simp only [Act.put, List.setIfInBounds_toArray, List.set_cons_zero, List.set_cons_succ, i64_w, i32_w]
                            rfl
                          refine take_ (i := 10) (N := some 39) (v := ?_) (a' := ?_) #[true, true, true, true, true, true, true, true, true, true, true, false, false, true, false, true, false, false, false, false] rfl rfl (take_ofW HT_.out HW_.out (by kernel_rfl)) (fun _ _ _ h => h) (Or.inl ⟨by rfl, ?_⟩) hHeld ?_ ?_
                          rotate_left
                          · rintro w' ⟨s0, s1, s2, s3, s4⟩
                            go_simp
                            with_reducible rfl
                          rotate_left
                          · simp only [Act.put, List.setIfInBounds_toArray, List.set_cons_zero, List.set_cons_succ, i64_w, i32_w]
                            rfl
                          refine pure_ (i := 11) (N := some 40) (v := ?_) (a' := ?_) #[true, true, true, true, true, true, true, true, true, true, true, true, false, true, false, true, false, false, false, false] rfl rfl (any_of HT_.out (by kernel_rfl)) (fun _ _ _ h => h) (Or.inl ⟨by rfl, ?_⟩) ?_ ?_
                          rotate_left
                          · intro w'
                            go_simp
                            with_reducible rfl
                          rotate_left
                          · simp only [Act.put, List.setIfInBounds_toArray, List.set_cons_zero, List.set_cons_succ, i64_w, i32_w]
                            rfl
                          refine take_ (i := 12) (N := some 41) (v := ?_) (a' := ?_) #[true, true, true, true, true, true, true, true, true, true, true, true, true, true, false, true, false, false, false, false] rfl rfl (take_ofW HT_.out HW_.out (by kernel_rfl)) (fun _ _ _ h => h) (Or.inl ⟨by rfl, ?_⟩) hHeld ?_ ?_
                          rotate_left
                          · rintro w' ⟨s0, s1, s2, s3, s4⟩
                            go_simp
                            with_reducible rfl
                          rotate_left
                          · simp only [Act.put, List.setIfInBounds_toArray, List.set_cons_zero, List.set_cons_succ, i64_w, i32_w]
                            rfl
                          refine take_ (i := 14) (N := some 43) (v := ?_) (a' := ?_) #[true, true, true, true, true, true, true, true, true, true, true, true, true, true, true, true, false, false, false, false] rfl rfl (take_ofW HT_.out HW_.out (by kernel_rfl)) (fun _ _ _ h => h) (Or.inl ⟨by rfl, ?_⟩) hHeld ?_ ?_
                          rotate_left
                          · rintro w' ⟨s0, s1, s2, s3, s4⟩
                            go_simp
                            with_reducible rfl
                          rotate_left
                          · simp only [Act.put, List.setIfInBounds_toArray, List.set_cons_zero, List.set_cons_succ, i64_w, i32_w]
                            rfl
                          refine take_ (i := 16) (N := some 45) (v := ?_) (a' := ?_) #[true, true, true, true, true, true, true, true, true, true, true, true, true, true, true, true, true, false, false, false] rfl rfl (take_ofW HT_.out HW_.out (by kernel_rfl)) (fun _ _ _ h => h) (Or.inl ⟨by rfl, ?_⟩) hHeld ?_ ?_
                          rotate_left
                          · rintro w' ⟨s0, s1, s2, s3, s4⟩
                            go_simp
                            with_reducible rfl
                          rotate_left
                          · simp only [Act.put, List.setIfInBounds_toArray, List.set_cons_zero, List.set_cons_succ, i64_w, i32_w]
                            rfl
                          refine one_ (i := 17) (N := some 46) #[true, true, true, true, true, true, true, true, true, true, true, true, true, true, true, true, true, true, false, false] rfl rfl (one_of HT_.out (by kernel_rfl)) (by decide) (fun K hK => ?_)
                          refine goes_ Try.func48 (by kernel_rfl) rfl #[.agg #[.int .i64 ((rd_T26 x7_2 ((rd_T57 l1 x25_2).f0)).f0), .int .i64 ((rd_T26 x7_2 ((rd_T57 l1 x25_2).f0)).f1)], .bool ((rd_T57 l1 x25_2).f1), .int .i64 ((rd_T57 l1 x25_2).f2)] (by rfl) rfl rfl (by (try simp only [List.map_toArray, List.map_cons, List.map_nil]); first | done | rfl | (simp only [List.length_drop, List.length_take]; rfl)) ?_
                          with_reducible refine (spec_brCan.calls ((rd_T26 x7_2 ((rd_T57 l1 x25_2).f0)).f0) ((rd_T26 x7_2 ((rd_T57 l1 x25_2).f0)).f1) ((rd_T57 l1 x25_2).f1) ((rd_T57 l1 x25_2).f2) t365 _ A26.out).mono ?_
                          rintro e w30 ⟨rfl, hb⟩
                          have HS3_ := (hb.cell (World.block_lt_of_cell? _ _ (hHeld.2.2.2.1))).trans (hHeld.2.2.2.1)
                          have HS4_ := (hb.cell (World.block_lt_of_cell? _ _ (hHeld.2.2.2.2))).trans (hHeld.2.2.2.2)
                          refine ⟨_, rfl, ?_⟩
                          have n0_ := Aside0.mk (Kd.R_below (by (with_reducible repeat (first | apply Kd.R_alloc | apply Kd.R_drewN | apply Kd.R_drew)); exact HO_7.out) hb)
                          have n1_ := Aside0.mk (blk_below (g := gb356) (o := .cells #[.int .i64 x357000_2, .int .i64 x357001_2] 26 (0, 0)) (by (with_reducible repeat (first | refine blk_drewN ?_ _ | refine blk_drew ?_ | refine blk_alloc ?_ _)); exact BK356.out) hb)
                          have n2_ := Aside0.mk (blk_below (g := gb362) (o := .cells #[.int .i64 ((rd_T57 l1 x25_2).f0), .bool ((rd_T57 l1 x25_2).f1), .int .i64 ((rd_T57 l1 x25_2).f2)] 57 (0, 0)) (by (with_reducible repeat (first | refine blk_drewN ?_ _ | refine blk_drew ?_ | refine blk_alloc ?_ _)); exact BK362.out) hb)
                          have n3_ := Aside0.mk (below_step (by repeat (first | (with_reducible first | exact HB.out | apply below_alloc | apply pw_below_drewN | apply below_drew1 | refine below_set ?_ GE356.out | refine below_set ?_ GE362.out) | exact HB.out)) hb)
                          clear HO_7
                          clear BK356
                          clear BK362
                          clear HB
                          have HO_7 := n0_
                          have BK356 := n1_
                          have BK362 := n2_
                          have HB := n3_
                          clear n0_ n1_ n2_ n3_
                          (try clear hb)
                          (try clear hb2)
                          (try clear hk)
                          (try clear hi)
                          refine hK.out _ _ ⟨(blk_cell BK362.out 0).trans rfl, (blk_cell BK362.out 1).trans rfl, (blk_cell BK362.out 2).trans rfl, HS3_, HS4_⟩ (fun hHeld => ?_)
                          clear hK K
                          refine norm_ (a' := ?_) ?_ ?_
                          rotate_left
                          · show Act.put _ (some 46) _ = _
                            simp only [Act.put, List.setIfInBounds_toArray, List.set_cons_zero, List.set_cons_succ, i64_w, i32_w]
                            rfl
                          refine pure_ (i := 18) (N := some 47) (v := ?_) (a' := ?_) #[true, true, true, true, true, true, true, true, true, true, true, true, true, true, true, true, true, true, true, false] rfl rfl (any_of HT_.out (by kernel_rfl)) (fun _ _ _ h => h) (Or.inl ⟨by rfl, ?_⟩) ?_ ?_
                          rotate_left
                          · intro w'
                            go_simp
                            with_reducible rfl
                          rotate_left
                          · simp only [Act.put, List.setIfInBounds_toArray, List.set_cons_zero, List.set_cons_succ, i64_w, i32_w]
                            rfl
                          refine pure_ (i := 19) (N := some 48) (v := ?_) (a' := ?_) #[true, true, true, true, true, true, true, true, true, true, true, true, true, true, true, true, true, true, true, true] rfl rfl (any_of HT_.out (by kernel_rfl)) (fun _ _ _ h => h) (Or.inl ⟨by rfl, ?_⟩) ?_ ?_
                          rotate_left
                          · intro w'
                            go_simp
                            with_reducible rfl
                          rotate_left
                          · simp only [Act.put, List.setIfInBounds_toArray, List.set_cons_zero, List.set_cons_succ, i64_w, i32_w]
                            rfl
                          refine done_ (done_of HT_.out (by kernel_rfl)) ?_
                          try go_wp2
                          go_meet
                          case rel => exact ⟨_, (!t365), (by first | rfl | (simp; done) | (simp [*]; done)), H', ⟨by have := HJ2.out; have := HK2.out; first | omega | exact Nat.le_refl _⟩, ⟨by (with_reducible repeat (first | apply Kd.R_alloc | apply Kd.R_drewN | apply Kd.R_drew)); exact HO_7.out⟩, ⟨by (with_reducible repeat (first | refine blk_drewN ?_ _ | refine blk_drew ?_ | refine blk_alloc ?_ _)); exact BK356.out⟩, ⟨by (with_reducible repeat (first | refine blk_drewN ?_ _ | refine blk_drew ?_ | refine blk_alloc ?_ _)); exact BK362.out⟩, ⟨by repeat (first | (with_reducible first | exact HB.out | apply below_alloc | apply pw_below_drewN | apply below_drew1 | refine below_set ?_ GE356.out | refine below_set ?_ GE362.out) | exact HB.out)⟩⟩
                        · rw [if_neg c25] at H
                          exact absurd H (by simp)
                      · rw [if_neg c24] at H
                        exact absurd H (by simp)
                    · replace c23 := Bool.eq_false_iff.mpr c23
                      subst c23
                      have H1 : (spec_brAll.j2 k2 x7_2 x8_2 l1 (l1.length : Int) x25_2 true ((rd_T57 l1 x25_2).f0) ((rd_T57 l1 x25_2).f1) ((rd_T57 l1 x25_2).f2)) = some (r1, r2, r3) := by rw [if_neg (show ¬ (false = true) by decide)] at H; exact H
                      clear H
                      have H := H1
                      clear H1
                      have H' := Aside0.mk H
                      clear H
                      try go_wp2
                      have n0_ : Aside0 (Kd.R k26 26 (((w19.setCell ⟨gb362, 0, none⟩ (.int .i64 ((rd_T57 l1 x25_2).f0))).setCell ⟨gb362, 1, none⟩ (.bool ((rd_T57 l1 x25_2).f1))).setCell ⟨gb362, 2, none⟩ (.int .i64 ((rd_T57 l1 x25_2).f2))) w.heap.size (fun k_ => k_ ≠ gb356) u7 x7_2) := ⟨by (with_reducible repeat (first | apply Kd.R_alloc | apply Kd.R_drewN | apply Kd.R_drew)); exact Kd.R_mono (Kd.R_far (p := ⟨gb362, 2, none⟩) (Kd.R_far (p := ⟨gb362, 1, none⟩) (Kd.R_far (p := ⟨gb362, 0, none⟩) (Kd.R_types HO_7.out BK362.out (by decide)) (fun _ hk => hk.2) (.int .i64 ((rd_T57 l1 x25_2).f0))) (fun _ hk => hk.2) (.bool ((rd_T57 l1 x25_2).f1))) (fun _ hk => hk.2) (.int .i64 ((rd_T57 l1 x25_2).f2))) (fun _ hk => hk.1)⟩
                      have n1_ : Aside0 ((((w19.setCell ⟨gb362, 0, none⟩ (.int .i64 ((rd_T57 l1 x25_2).f0))).setCell ⟨gb362, 1, none⟩ (.bool ((rd_T57 l1 x25_2).f1))).setCell ⟨gb362, 2, none⟩ (.int .i64 ((rd_T57 l1 x25_2).f2))).heap[gb356]? = some (.cells #[.int .i64 x357000_2, .int .i64 x357001_2] 26 (0, 0))) := ⟨by (with_reducible repeat (first | refine blk_drewN ?_ _ | refine blk_drew ?_ | refine blk_alloc ?_ _)); refine blk_far ?_ NB356_362.out _; (with_reducible repeat (first | refine blk_drewN ?_ _ | refine blk_drew ?_ | refine blk_alloc ?_ _)); refine blk_far ?_ NB356_362.out _; (with_reducible repeat (first | refine blk_drewN ?_ _ | refine blk_drew ?_ | refine blk_alloc ?_ _)); refine blk_far ?_ NB356_362.out _; (with_reducible repeat (first | refine blk_drewN ?_ _ | refine blk_drew ?_ | refine blk_alloc ?_ _)); exact BK356.out⟩
                      have n2_ : Aside0 ((((w19.setCell ⟨gb362, 0, none⟩ (.int .i64 ((rd_T57 l1 x25_2).f0))).setCell ⟨gb362, 1, none⟩ (.bool ((rd_T57 l1 x25_2).f1))).setCell ⟨gb362, 2, none⟩ (.int .i64 ((rd_T57 l1 x25_2).f2))).heap[gb362]? = some (.cells #[.int .i64 ((rd_T57 l1 x25_2).f0), .bool ((rd_T57 l1 x25_2).f1), .int .i64 ((rd_T57 l1 x25_2).f2)] 57 (0, 0))) := ⟨by (with_reducible repeat (first | refine blk_drewN ?_ _ | refine blk_drew ?_ | refine blk_alloc ?_ _)); refine blk_put (cs := #[.int .i64 ((rd_T57 l1 x25_2).f0), .bool ((rd_T57 l1 x25_2).f1), .int .i64 0]) ?_ 2 _ rfl; (with_reducible repeat (first | refine blk_drewN ?_ _ | refine blk_drew ?_ | refine blk_alloc ?_ _)); refine blk_put (cs := #[.int .i64 ((rd_T57 l1 x25_2).f0), .bool false, .int .i64 0]) ?_ 1 _ rfl; (with_reducible repeat (first | refine blk_drewN ?_ _ | refine blk_drew ?_ | refine blk_alloc ?_ _)); refine blk_put (cs := #[.int .i64 0, .bool false, .int .i64 0]) ?_ 0 _ rfl; (with_reducible repeat (first | refine blk_drewN ?_ _ | refine blk_drew ?_ | refine blk_alloc ?_ _)); exact BK362.out⟩
                      have n3_ : Aside0 (Below w.heap.size w (((w19.setCell ⟨gb362, 0, none⟩ (.int .i64 ((rd_T57 l1 x25_2).f0))).setCell ⟨gb362, 1, none⟩ (.bool ((rd_T57 l1 x25_2).f1))).setCell ⟨gb362, 2, none⟩ (.int .i64 ((rd_T57 l1 x25_2).f2)))) := ⟨by repeat (first | (with_reducible first | exact HB.out | apply below_alloc | apply pw_below_drewN | apply below_drew1 | refine below_set ?_ GE356.out | refine below_set ?_ GE362.out) | exact HB.out)⟩
                      (try clear HO_7)
                      (try clear BK356)
                      (try clear BK362)
                      (try clear HB)
                      generalize (((w19.setCell ⟨gb362, 0, none⟩ (.int .i64 ((rd_T57 l1 x25_2).f0))).setCell ⟨gb362, 1, none⟩ (.bool ((rd_T57 l1 x25_2).f1))).setCell ⟨gb362, 2, none⟩ (.int .i64 ((rd_T57 l1 x25_2).f2))) = w31 at n0_ n1_ n2_ n3_ ⊢
                      have HO_7 := n0_
                      have BK356 := n1_
                      have BK362 := n2_
                      have HB := n3_
                      clear n0_ n1_ n2_ n3_
                      have n0_ := Aside0.mk (Kd.R_drew HO_7.out)
                      have n1_ := Aside0.mk (blk_drew BK356.out)
                      have n2_ := Aside0.mk (blk_drew BK362.out)
                      have n3_ := Aside0.mk (below_drew1 HB.out)
                      clear HO_7
                      clear BK356
                      clear BK362
                      clear HB
                      have HO_7 := n0_
                      have BK356 := n1_
                      have BK362 := n2_
                      have HB := n3_
                      clear n0_ n1_ n2_ n3_
                      obtain ⟨Ao33, co33, eo33⟩ := Kd.R_slice HO_7.out
                      (first | subst eo33 | (injection eo33 with f1_ f2_ f3_; have f4_ := f1_.symm; have f5_ := f3_.symm; clear f1_ f2_ f3_; subst f4_; subst f5_))
                      refine start_ (n := 20) (S := fun w' => w'.cell? ⟨gb362, 0, none⟩ = some (.int .i64 ((rd_T57 l1 x25_2).f0)) ∧ w'.cell? ⟨gb362, 1, none⟩ = some (.bool ((rd_T57 l1 x25_2).f1)) ∧ w'.cell? ⟨gb362, 2, none⟩ = some (.int .i64 ((rd_T57 l1 x25_2).f2))) (ds := []) #[false, false, false, false, false, false, false, false, false, false, false, false, false, false, false, false, false, false, false, false] (by kernel_rfl) rfl rfl ⟨(blk_cell BK362.out 0).trans rfl, (blk_cell BK362.out 1).trans rfl, (blk_cell BK362.out 2).trans rfl⟩ (fun hHeld => ?_); refine with_tabW spec_brAll.tab8 spec_brAll.bits8 (fun HT_ HW_ => ?_)
                      generalize w31.drew = w32 at HO_7 BK356 BK362 HB hHeld ⊢
                      refine pure_ (i := 0) (N := some 29) (v := ?_) (a' := ?_) #[true, false, false, false, false, false, false, false, false, false, false, false, false, false, false, false, false, false, false, false] rfl rfl (any_of HT_.out (by kernel_rfl)) (fun _ _ _ h => h) (Or.inl ⟨by rfl, ?_⟩) ?_ ?_
                      rotate_left
                      · intro w'
                        go_simp
                        with_reducible rfl
                      rotate_left
                      · simp only [Act.put, List.setIfInBounds_toArray, List.set_cons_zero, List.set_cons_succ, i64_w, i32_w]
                        rfl
                      refine pure_ (i := 2) (N := some 31) (v := ?_) (a' := ?_) #[true, false, true, false, false, false, false, false, false, false, false, false, false, false, false, false, false, false, false, false] rfl rfl (any_of HT_.out (by kernel_rfl)) (fun _ _ _ h => h) (Or.inl ⟨by rfl, ?_⟩) ?_ ?_
                      rotate_left
                      · intro w'
                        go_simp
                        with_reducible rfl
                      rotate_left
                      · simp only [Act.put, List.setIfInBounds_toArray, List.set_cons_zero, List.set_cons_succ, i64_w, i32_w]
                        rfl
                      refine pure_ (i := 3) (N := some 32) (v := ?_) (a' := ?_) #[true, false, true, true, false, false, false, false, false, false, false, false, false, false, false, false, false, false, false, false] rfl rfl (any_of HT_.out (by kernel_rfl)) (fun _ _ _ h => h) (Or.inl ⟨by rfl, ?_⟩) ?_ ?_
                      rotate_left
                      · intro w'
                        go_simp
                        with_reducible rfl
                      rotate_left
                      · simp only [Act.put, List.setIfInBounds_toArray, List.set_cons_zero, List.set_cons_succ, i64_w, i32_w]
                        rfl
                      refine pure_ (i := 4) (N := some 33) (v := ?_) (a' := ?_) #[true, false, true, true, true, false, false, false, false, false, false, false, false, false, false, false, false, false, false, false] rfl rfl (any_of HT_.out (by kernel_rfl)) (fun _ _ _ h => h) (Or.inl ⟨by rfl, ?_⟩) ?_ ?_
                      rotate_left
                      · intro w'
                        go_simp
                        with_reducible rfl
                      rotate_left
                      · simp only [Act.put, List.setIfInBounds_toArray, List.set_cons_zero, List.set_cons_succ, i64_w, i32_w]
                        rfl
                      refine take_ (i := 1) (N := some 30) (v := ?_) (a' := ?_) #[true, true, true, true, true, false, false, false, false, false, false, false, false, false, false, false, false, false, false, false] rfl rfl (take_ofW HT_.out HW_.out (by kernel_rfl)) (fun _ _ _ h => h) (Or.inl ⟨by rfl, ?_⟩) hHeld ?_ ?_
                      rotate_left
                      · rintro w' ⟨s0, s1, s2⟩
                        go_simp
                        with_reducible rfl
                      rotate_left
                      · simp only [Act.put, List.setIfInBounds_toArray, List.set_cons_zero, List.set_cons_succ, i64_w, i32_w]
                        rfl
                      refine one_ (i := 5) (N := some 34) #[true, true, true, true, true, true, false, false, false, false, false, false, false, false, false, false, false, false, false, false] rfl rfl (one_of HT_.out (by kernel_rfl)) (by decide) (fun K hK => ?_)
                      refine goes_ Try.func51 (by kernel_rfl) rfl #[.int .i64 ((rd_T57 l1 x25_2).f0), .int .i64 0, .int .i64 (wrap64 ((x7_2.length : Int) - 1))] (by rfl) rfl rfl (by (try simp only [List.map_toArray, List.map_cons, List.map_nil]); first | done | rfl | (simp only [List.length_drop, List.length_take]; rfl)) ?_
                      with_reducible refine (spec_l1In.calls ((rd_T57 l1 x25_2).f0) 0 (wrap64 ((x7_2.length : Int) - 1)) false _ A22.out).mono ?_
                      rintro e w' ⟨rfl, ⟨nd, rfl⟩⟩
                      refine ⟨_, rfl, ?_⟩
                      refine hK.out _ _ ⟨(blk_cell BK362.out 0).trans rfl, (blk_cell BK362.out 1).trans rfl, (blk_cell BK362.out 2).trans rfl⟩ (fun hHeld => ?_)
                      clear hK K
                      refine norm_ (a' := ?_) ?_ ?_
                      rotate_left
                      · show Act.put _ (some 34) _ = _
                        simp only [Act.put, List.setIfInBounds_toArray, List.set_cons_zero, List.set_cons_succ, i64_w, i32_w]
                        rfl
                      refine pure_ (i := 6) (N := some 35) (v := ?_) (a' := ?_) #[true, true, true, true, true, true, true, false, false, false, false, false, false, false, false, false, false, false, false, false] rfl rfl (any_of HT_.out (by kernel_rfl)) (fun _ _ _ h => h) (Or.inl ⟨by rfl, ?_⟩) ?_ ?_
                      rotate_left
                      · intro w'
                        go_simp
                        with_reducible rfl
                      rotate_left
                      · simp only [Act.put, List.setIfInBounds_toArray, List.set_cons_zero, List.set_cons_succ, i64_w, i32_w]
                        rfl
                      refine pure_ (i := 7) (N := some 36) (v := ?_) (a' := ?_) #[true, true, true, true, true, true, true, true, false, false, false, false, false, false, false, false, false, false, false, false] rfl rfl (any_of HT_.out (by kernel_rfl)) (fun _ _ _ h => h) (Or.inl ⟨by rfl, ?_⟩) ?_ ?_
                      rotate_left
                      · intro w'
                        go_simp
                        with_reducible rfl
                      rotate_left
                      · simp only [Act.put, List.setIfInBounds_toArray, List.set_cons_zero, List.set_cons_succ, i64_w, i32_w]
                        rfl
                      refine pure_ (i := 8) (N := some 37) (v := undef) (a' := ?_) #[true, true, true, true, true, true, true, true, true, false, false, false, false, false, false, false, false, false, false, false] rfl rfl (any_of HT_.out (by kernel_rfl)) (fun _ _ _ h => h) (Or.inr ⟨by rfl, rfl⟩) ?_ ?_
                      rotate_left
                      · simp only [Act.put, List.setIfInBounds_toArray, List.set_cons_zero, List.set_cons_succ, i64_w, i32_w]
                        rfl
                      refine pure_ (i := 9) (N := some 38) (v := undef) (a' := ?_) #[true, true, true, true, true, true, true, true, true, true, false, false, false, false, false, false, false, false, false, false] rfl rfl (any_of HT_.out (by kernel_rfl)) (fun _ _ _ h => h) (Or.inr ⟨by rfl, rfl⟩) ?_ ?_
                      rotate_left
                      · simp only [Act.put, List.setIfInBounds_toArray, List.set_cons_zero, List.set_cons_succ, i64_w, i32_w]
                        rfl
                      refine pure_ (i := 10) (N := some 39) (v := undef) (a' := ?_) #[true, true, true, true, true, true, true, true, true, true, true, false, false, false, false, false, false, false, false, false] rfl rfl (any_of HT_.out (by kernel_rfl)) (fun _ _ _ h => h) (Or.inr ⟨by rfl, rfl⟩) ?_ ?_
                      rotate_left
                      · simp only [Act.put, List.setIfInBounds_toArray, List.set_cons_zero, List.set_cons_succ, i64_w, i32_w]
                        rfl
                      refine pure_ (i := 11) (N := some 40) (v := undef) (a' := ?_) #[true, true, true, true, true, true, true, true, true, true, true, true, false, false, false, false, false, false, false, false] rfl rfl (any_of HT_.out (by kernel_rfl)) (fun _ _ _ h => h) (Or.inr ⟨by rfl, rfl⟩) ?_ ?_
                      rotate_left
                      · simp only [Act.put, List.setIfInBounds_toArray, List.set_cons_zero, List.set_cons_succ, i64_w, i32_w]
                        rfl
                      refine pure_ (i := 12) (N := some 41) (v := undef) (a' := ?_) #[true, true, true, true, true, true, true, true, true, true, true, true, true, false, false, false, false, false, false, false] rfl rfl (any_of HT_.out (by kernel_rfl)) (fun _ _ _ h => h) (Or.inr ⟨by rfl, rfl⟩) ?_ ?_
                      rotate_left
                      · simp only [Act.put, List.setIfInBounds_toArray, List.set_cons_zero, List.set_cons_succ, i64_w, i32_w]
                        rfl
                      refine pure_ (i := 13) (N := some 42) (v := undef) (a' := ?_) #[true, true, true, true, true, true, true, true, true, true, true, true, true, true, false, false, false, false, false, false] rfl rfl (any_of HT_.out (by kernel_rfl)) (fun _ _ _ h => h) (Or.inr ⟨by rfl, rfl⟩) ?_ ?_
                      rotate_left
                      · simp only [Act.put, List.setIfInBounds_toArray, List.set_cons_zero, List.set_cons_succ, i64_w, i32_w]
                        rfl
                      refine pure_ (i := 14) (N := some 43) (v := undef) (a' := ?_) #[true, true, true, true, true, true, true, true, true, true, true, true, true, true, true, false, false, false, false, false] rfl rfl (any_of HT_.out (by kernel_rfl)) (fun _ _ _ h => h) (Or.inr ⟨by rfl, rfl⟩) ?_ ?_
                      rotate_left
                      · simp only [Act.put, List.setIfInBounds_toArray, List.set_cons_zero, List.set_cons_succ, i64_w, i32_w]
                        rfl
                      refine pure_ (i := 15) (N := some 44) (v := undef) (a' := ?_) #[true, true, true, true, true, true, true, true, true, true, true, true, true, true, true, true, false, false, false, false] rfl rfl (any_of HT_.out (by kernel_rfl)) (fun _ _ _ h => h) (Or.inr ⟨by rfl, rfl⟩) ?_ ?_
                      rotate_left
                      · simp only [Act.put, List.setIfInBounds_toArray, List.set_cons_zero, List.set_cons_succ, i64_w, i32_w]
                        rfl
                      refine pure_ (i := 16) (N := some 45) (v := undef) (a' := ?_) #[true, true, true, true, true, true, true, true, true, true, true, true, true, true, true, true, true, false, false, false] rfl rfl (any_of HT_.out (by kernel_rfl)) (fun _ _ _ h => h) (Or.inr ⟨by rfl, rfl⟩) ?_ ?_
                      rotate_left
                      · simp only [Act.put, List.setIfInBounds_toArray, List.set_cons_zero, List.set_cons_succ, i64_w, i32_w]
                        rfl
                      refine pure_ (i := 17) (N := some 46) (v := undef) (a' := ?_) #[true, true, true, true, true, true, true, true, true, true, true, true, true, true, true, true, true, true, false, false] rfl rfl (any_of HT_.out (by kernel_rfl)) (fun _ _ _ h => h) (Or.inr ⟨by rfl, rfl⟩) ?_ ?_
                      rotate_left
                      · simp only [Act.put, List.setIfInBounds_toArray, List.set_cons_zero, List.set_cons_succ, i64_w, i32_w]
                        rfl
                      refine pure_ (i := 18) (N := some 47) (v := undef) (a' := ?_) #[true, true, true, true, true, true, true, true, true, true, true, true, true, true, true, true, true, true, true, false] rfl rfl (any_of HT_.out (by kernel_rfl)) (fun _ _ _ h => h) (Or.inr ⟨by rfl, rfl⟩) ?_ ?_
                      rotate_left
                      · simp only [Act.put, List.setIfInBounds_toArray, List.set_cons_zero, List.set_cons_succ, i64_w, i32_w]
                        rfl
                      refine pure_ (i := 19) (N := some 48) (v := ?_) (a' := ?_) #[true, true, true, true, true, true, true, true, true, true, true, true, true, true, true, true, true, true, true, true] rfl rfl (any_of HT_.out (by kernel_rfl)) (fun _ _ _ h => h) (Or.inl ⟨by rfl, ?_⟩) ?_ ?_
                      rotate_left
                      · intro w'
                        go_simp
                        with_reducible rfl
                      rotate_left
                      · simp only [Act.put, List.setIfInBounds_toArray, List.set_cons_zero, List.set_cons_succ, i64_w, i32_w]
                        rfl
                      refine done_ (done_of HT_.out (by kernel_rfl)) ?_
                      try go_wp2
                      go_meet
                      case rel => exact ⟨_, (true), (by first | rfl | (simp; done) | (simp [*]; done)), H', ⟨by have := HJ2.out; have := HK2.out; first | omega | exact Nat.le_refl _⟩, ⟨by (with_reducible repeat (first | apply Kd.R_alloc | apply Kd.R_drewN | apply Kd.R_drew)); exact HO_7.out⟩, ⟨by (with_reducible repeat (first | refine blk_drewN ?_ _ | refine blk_drew ?_ | refine blk_alloc ?_ _)); exact BK356.out⟩, ⟨by (with_reducible repeat (first | refine blk_drewN ?_ _ | refine blk_drew ?_ | refine blk_alloc ?_ _)); exact BK362.out⟩, ⟨by repeat (first | (with_reducible first | exact HB.out | apply below_alloc | apply pw_below_drewN | apply below_drew1 | refine below_set ?_ GE356.out | refine below_set ?_ GE362.out) | exact HB.out)⟩⟩
                  case rest =>
                    clear HC18
                    try clear c1
                    try clear c2
                    try clear p2
                    try clear p3
                    try clear q3
                    try clear hx3
                    try clear c4
                    try clear c5
                    try clear c6
                    try clear p6
                    try clear c11
                    try clear c15
                    try clear c15b0
                    try clear c16
                    try clear c16b0
                    try clear c17
                    try clear c17b0
                    try clear c20
                    try clear c23
                    try clear c24
                    try clear c24b0
                    try clear c25
                    try clear c25b0
                    try clear hcz12_0
                    try clear hcz12_1
                    try clear hcz21_0
                    try clear hcz21_1
                    try clear hcz21_2
                    try clear hcz7_0
                    try clear hcz7_1
                    try clear hcz9_0
                    try clear hcz9_1
                    try clear hfz12_0
                    try clear hfz12_1
                    try clear hfz21_0
                    try clear hfz21_1
                    try clear hfz21_2
                    try clear hfz7_0
                    try clear hfz7_1
                    try clear hfz9_0
                    try clear hfz9_1
                    try clear hx361_0
                    try clear hx361_1
                    try clear hx361_2
                    try clear hx364_0
                    try clear hx364_1
                    try clear p2
                    try clear p361
                    try clear p364
                    try clear q361
                    try clear q364
                    obtain ⟨kq, x48_17, rfl, HA, HJ17, HO_7, BK356, BK362, HB⟩ := hcut
                    cases kq with
                    | zero => exact absurd HA.out (by simp [spec_brAll.j2])
                    | succ kj17 =>
                      have H := HA.out
                      clear HA
                      simp only [spec_brAll.j2] at H
                      by_cases c34 : x48_17 = true
                      · subst c34
                        have H1 : (some (([] : List (S26)), 0, false)) = some (r1, r2, r3) := by rw [if_pos rfl] at H; exact H
                        clear H
                        have H := H1
                        clear H1
                        simp only [Option.some.injEq, Prod.mk.injEq] at H
                        obtain ⟨rfl, rfl, rfl⟩ := H
                        go_wp2
                        go_ret3
                        exact ⟨_, by first | rfl | (simp [errW_none, errW_some] <;> rfl) | (simp [*, errW_none, errW_some] <;> rfl), by first | exact Kd.R_nil _ _ _ _ _ | exact Kd.N_nil _ _ _ _ _ | exact Kd.V_nil _ _ _ _ _ | exact Kd.Q_nil _ _ _ _ _ | exact Kd.S_nil _ _ _ _ _, by repeat (first | (with_reducible first | exact HB.out | apply below_alloc | apply pw_below_drewN | apply below_drew1 | refine below_set ?_ GE356.out | refine below_set ?_ GE362.out) | exact HB.out)⟩
                      · replace c34 := Bool.eq_false_iff.mpr c34
                        subst c34
                        have H1 : (if 0 ≤ ((rd_T57 l1 x25_2).f0) then (if ((rd_T57 l1 x25_2).f0) < (x7_2.length : Int) then ((spec_brLong.f ((rd_T26 x7_2 ((rd_T57 l1 x25_2).f0)).f0) ((rd_T26 x7_2 ((rd_T57 l1 x25_2).f0)).f1) ((rd_T57 l1 x25_2).f1)).bind fun t367 => ((spec_brParts.f ((rd_T26 x7_2 ((rd_T57 l1 x25_2).f0)).f0) ((rd_T26 x7_2 ((rd_T57 l1 x25_2).f0)).f1) ((rd_T57 l1 x25_2).f1) ((rd_T57 l1 x25_2).f2)).bind fun bt369 => ((some (x7_2.set (((rd_T57 l1 x25_2).f0) : Int).toNat (⟨bt369.1, bt369.2.1⟩ : S26) : List (S26))).bind fun y375 => (if y375.length < 8796093022208 then (spec_brAll.l0 kj17 (y375 ++ [(⟨bt369.2.2.1, bt369.2.2.2⟩ : S26)]) (wrap64 (x8_2 + t367)) l1 (l1.length : Int) (wrap64 (x25_2 + 1))) else (none))))) else (none)) else (none)) = some (r1, r2, r3) := by rw [if_neg (show ¬ (false = true) by decide)] at H; exact H
                        clear H
                        have H := H1
                        clear H1
                        by_cases c35 : 0 ≤ ((rd_T57 l1 x25_2).f0)
                        · rw [if_pos c35] at H
                          have c35b0 : decide (0 ≤ ((rd_T57 l1 x25_2).f0)) = true := decide_eq_true c35
                          clear c35
                          by_cases c36 : ((rd_T57 l1 x25_2).f0) < (x7_2.length : Int)
                          · rw [if_pos c36] at H
                            have c36b0 : decide (((rd_T57 l1 x25_2).f0) < (x7_2.length : Int)) = true := decide_eq_true c36
                            clear c36
                            replace H := Option.bind_eq_some_iff.mp H
                            obtain ⟨t367, A370, H⟩ := H
                            replace H : ((spec_brParts.f ((rd_T26 x7_2 ((rd_T57 l1 x25_2).f0)).f0) ((rd_T26 x7_2 ((rd_T57 l1 x25_2).f0)).f1) ((rd_T57 l1 x25_2).f1) ((rd_T57 l1 x25_2).f2)).bind fun bt369 => ((some (x7_2.set (((rd_T57 l1 x25_2).f0) : Int).toNat (⟨bt369.1, bt369.2.1⟩ : S26) : List (S26))).bind fun y375 => (if y375.length < 8796093022208 then (spec_brAll.l0 kj17 (y375 ++ [(⟨bt369.2.2.1, bt369.2.2.2⟩ : S26)]) (wrap64 (x8_2 + t367)) l1 (l1.length : Int) (wrap64 (x25_2 + 1))) else (none)))) = some (r1, r2, r3) := H
                            have A37 := Aside0.mk A370
                            clear A370
                            replace H := Option.bind_eq_some_iff.mp H
                            obtain ⟨⟨t369, t370, t371, t372⟩, A380, H⟩ := H
                            replace H : ((some (x7_2.set (((rd_T57 l1 x25_2).f0) : Int).toNat (⟨t369, t370⟩ : S26) : List (S26))).bind fun y375 => (if y375.length < 8796093022208 then (spec_brAll.l0 kj17 (y375 ++ [(⟨t371, t372⟩ : S26)]) (wrap64 (x8_2 + t367)) l1 (l1.length : Int) (wrap64 (x25_2 + 1))) else (none))) = some (r1, r2, r3) := H
                            have A38 := Aside0.mk A380
                            clear A380
                            obtain ⟨y375, hy375⟩ : ∃ y_ : List (S26), y_ = (x7_2.set (((rd_T57 l1 x25_2).f0) : Int).toNat (⟨t369, t370⟩ : S26)) := ⟨_, rfl⟩
                            replace H : (if y375.length < 8796093022208 then (spec_brAll.l0 kj17 (y375 ++ [(⟨t371, t372⟩ : S26)]) (wrap64 (x8_2 + t367)) l1 (l1.length : Int) (wrap64 (x25_2 + 1))) else (none)) = some (r1, r2, r3) := by first | (rw [hy375]; with_reducible exact H) | (have H2_ := (Option.bind_some _ _).symm.trans H; rw [hy375]; with_reducible exact H2_) | (have H2_ := (Option.bind_some _ _).symm.trans H; with_reducible exact H2_) | with_reducible exact H | (rw [hy375]; exact H) | exact H
                            have Ny375 := Aside0.mk hy375
                            clear hy375
                            by_cases c40 : y375.length < 8796093022208
                            · rw [if_pos c40] at H
                              have LMc40 := Aside0.mk c40
                              clear c40
                              obtain ⟨y376, hy376⟩ : ∃ y_ : List (S26), y_ = (y375 ++ [(⟨t371, t372⟩ : S26)]) := ⟨_, rfl⟩
                              replace H : (spec_brAll.l0 kj17 y376 (wrap64 (x8_2 + t367)) l1 (l1.length : Int) (wrap64 (x25_2 + 1))) = some (r1, r2, r3) := by first | (rw [hy376]; with_reducible exact H) | (have H2_ := (Option.bind_some _ _).symm.trans H; rw [hy376]; with_reducible exact H2_) | (have H2_ := (Option.bind_some _ _).symm.trans H; with_reducible exact H2_) | with_reducible exact H | (rw [hy376]; exact H) | exact H
                              have Ny376 := Aside0.mk hy376
                              clear hy376
                              have H' := Aside0.mk H
                              clear H
                              try go_wp2
                              have n0_ := Aside0.mk (Kd.R_drew HO_7.out)
                              have n1_ := Aside0.mk (blk_drew BK356.out)
                              have n2_ := Aside0.mk (blk_drew BK362.out)
                              have n3_ := Aside0.mk (below_drew1 HB.out)
                              clear HO_7
                              clear BK356
                              clear BK362
                              clear HB
                              have HO_7 := n0_
                              have BK356 := n1_
                              have BK362 := n2_
                              have HB := n3_
                              clear n0_ n1_ n2_ n3_
                              obtain ⟨Ao42, co42, eo42⟩ := Kd.R_slice HO_7.out
                              (first | subst eo42 | (injection eo42 with f1_ f2_ f3_; have f4_ := f1_.symm; have f5_ := f3_.symm; clear f1_ f2_ f3_; subst f4_; subst f5_))
                              have p366 : 0 ≤ (((rd_T57 l1 x25_2).f0) : Int) := of_decide_eq_true (by first | (with_reducible assumption) | assumption)
                              have q366 : ((rd_T57 l1 x25_2).f0) < (x7_2.length : Int) := of_decide_eq_true (by first | (with_reducible assumption) | assumption)
                              obtain ⟨ad366, e366, hx366_0, hx366_1⟩ := at_T26 (Kd.R_reads' HO_7.out).2.2 ((rd_T57 l1 x25_2).f0) p366 q366
                              cases e366
                              replace p366 := eq_true p366
                              replace q366 := eq_true q366
                              refine start_ (n := 11) (S := fun w' => w'.cell? ⟨gb362, 0, none⟩ = some (.int .i64 ((rd_T57 l1 x25_2).f0)) ∧ w'.cell? ⟨gb362, 1, none⟩ = some (.bool ((rd_T57 l1 x25_2).f1)) ∧ w'.cell? ⟨gb362, 2, none⟩ = some (.int .i64 ((rd_T57 l1 x25_2).f2)) ∧ w'.cell? (ad366.add ((((rd_T57 l1 x25_2).f0)).toNat * 2)) = some (.int .i64 ((rd_T26 x7_2 ((rd_T57 l1 x25_2).f0)).f0)) ∧ w'.cell? ⟨(ad366.add ((((rd_T57 l1 x25_2).f0)).toNat * 2)).block, (ad366.add ((((rd_T57 l1 x25_2).f0)).toNat * 2)).off + 1, none⟩ = some (.int .i64 ((rd_T26 x7_2 ((rd_T57 l1 x25_2).f0)).f1))) (ds := []) #[false, false, false, false, false, false, false, false, false, false, false] (by kernel_rfl) rfl rfl ⟨(blk_cell BK362.out 0).trans rfl, (blk_cell BK362.out 1).trans rfl, (blk_cell BK362.out 2).trans rfl, hx366_0, hx366_1⟩ (fun hHeld => ?_); refine with_tabW spec_brAll.tab10 spec_brAll.bits10 (fun HT_ HW_ => ?_)
                              generalize wc.drew = w41 at HO_7 BK356 BK362 HB hx366_0 hx366_1 hHeld ⊢
                              refine pure_ (i := 0) (N := some 49) (v := ?_) (a' := ?_) #[true, false, false, false, false, false, false, false, false, false, false] rfl rfl (any_of HT_.out (by kernel_rfl)) (fun _ _ _ h => h) (Or.inl ⟨by rfl, ?_⟩) ?_ ?_
                              rotate_left
                              · intro w'
                                go_simp
                                with_reducible rfl
                              rotate_left
                              · simp only [Act.put, List.setIfInBounds_toArray, List.set_cons_zero, List.set_cons_succ, i64_w, i32_w]
                                rfl
                              refine pure_ (i := 1) (N := some 50) (v := ?_) (a' := ?_) #[true, true, false, false, false, false, false, false, false, false, false] rfl rfl (any_of HT_.out (by kernel_rfl)) (fun _ _ _ h => h) (Or.inl ⟨by rfl, ?_⟩) ?_ ?_
                              rotate_left
                              · intro w'
                                go_simp
                                with_reducible rfl
                              rotate_left
                              · simp only [Act.put, List.setIfInBounds_toArray, List.set_cons_zero, List.set_cons_succ, i64_w, i32_w]
                                rfl
                              refine pure_ (i := 2) (N := some 51) (v := ?_) (a' := ?_) #[true, true, true, false, false, false, false, false, false, false, false] rfl rfl (any_of HT_.out (by kernel_rfl)) (fun _ _ _ h => h) (Or.inl ⟨by rfl, ?_⟩) ?_ ?_
                              rotate_left
                              · intro w'
                                go_simp
                                with_reducible rfl
                              rotate_left
                              · simp only [Act.put, List.setIfInBounds_toArray, List.set_cons_zero, List.set_cons_succ, i64_w, i32_w]
                                rfl
                              refine pure_ (i := 6) (N := some 55) (v := ?_) (a' := ?_) #[true, true, true, false, false, false, true, false, false, false, false] rfl rfl (any_of HT_.out (by kernel_rfl)) (fun _ _ _ h => h) (Or.inl ⟨by rfl, ?_⟩) ?_ ?_
                              rotate_left
                              · intro w'
                                go_simp
                                with_reducible rfl
                              rotate_left
                              · simp only [Act.put, List.setIfInBounds_toArray, List.set_cons_zero, List.set_cons_succ, i64_w, i32_w]
                                rfl
                              refine take_ (i := 3) (N := some 52) (v := ?_) (a' := ?_) #[true, true, true, true, false, false, true, false, false, false, false] rfl rfl (take_ofW HT_.out HW_.out (by kernel_rfl)) (fun _ _ _ h => h) (Or.inl ⟨by rfl, ?_⟩) hHeld ?_ ?_
                              rotate_left
                              · rintro w' ⟨s0, s1, s2, s3, s4⟩
                                go_simp
                                with_reducible rfl
                              rotate_left
                              · simp only [Act.put, List.setIfInBounds_toArray, List.set_cons_zero, List.set_cons_succ, i64_w, i32_w]
                                rfl
                              refine pure_ (i := 4) (N := some 53) (v := ?_) (a' := ?_) #[true, true, true, true, true, false, true, false, false, false, false] rfl rfl (any_of HT_.out (by kernel_rfl)) (fun _ _ _ h => h) (Or.inl ⟨by rfl, ?_⟩) ?_ ?_
                              rotate_left
                              · intro w'
                                go_simp
                                with_reducible rfl
                              rotate_left
                              · simp only [Act.put, List.setIfInBounds_toArray, List.set_cons_zero, List.set_cons_succ, i64_w, i32_w]
                                rfl
                              refine take_ (i := 5) (N := some 54) (v := ?_) (a' := ?_) #[true, true, true, true, true, true, true, false, false, false, false] rfl rfl (take_ofW HT_.out HW_.out (by kernel_rfl)) (fun _ _ _ h => h) (Or.inl ⟨by rfl, ?_⟩) hHeld ?_ ?_
                              rotate_left
                              · rintro w' ⟨s0, s1, s2, s3, s4⟩
                                go_simp
                                with_reducible rfl
                              rotate_left
                              · simp only [Act.put, List.setIfInBounds_toArray, List.set_cons_zero, List.set_cons_succ, i64_w, i32_w]
                                rfl
                              refine take_ (i := 7) (N := some 56) (v := ?_) (a' := ?_) #[true, true, true, true, true, true, true, true, false, false, false] rfl rfl (take_ofW HT_.out HW_.out (by kernel_rfl)) (fun _ _ _ h => h) (Or.inl ⟨by rfl, ?_⟩) hHeld ?_ ?_
                              rotate_left
                              · rintro w' ⟨s0, s1, s2, s3, s4⟩
                                go_simp
                                with_reducible rfl
                              rotate_left
                              · simp only [Act.put, List.setIfInBounds_toArray, List.set_cons_zero, List.set_cons_succ, i64_w, i32_w]
                                rfl
                              refine one_ (i := 8) (N := some 57) #[true, true, true, true, true, true, true, true, true, false, false] rfl rfl (one_of HT_.out (by kernel_rfl)) (by decide) (fun K hK => ?_)
                              refine goes_ Try.func56 (by kernel_rfl) rfl #[.agg #[.int .i64 ((rd_T26 x7_2 ((rd_T57 l1 x25_2).f0)).f0), .int .i64 ((rd_T26 x7_2 ((rd_T57 l1 x25_2).f0)).f1)], .bool ((rd_T57 l1 x25_2).f1)] (by rfl) rfl rfl (by (try simp only [List.map_toArray, List.map_cons, List.map_nil]); first | done | rfl | (simp only [List.length_drop, List.length_take]; rfl)) ?_
                              with_reducible refine (spec_brLong.calls ((rd_T26 x7_2 ((rd_T57 l1 x25_2).f0)).f0) ((rd_T26 x7_2 ((rd_T57 l1 x25_2).f0)).f1) ((rd_T57 l1 x25_2).f1) t367 _ A37.out).mono ?_
                              rintro e w43 ⟨rfl, hb⟩
                              have HS3_ := (hb.cell (World.block_lt_of_cell? _ _ (hHeld.2.2.2.1))).trans (hHeld.2.2.2.1)
                              have HS4_ := (hb.cell (World.block_lt_of_cell? _ _ (hHeld.2.2.2.2))).trans (hHeld.2.2.2.2)
                              refine ⟨_, rfl, ?_⟩
                              have n0_ := Aside0.mk (Kd.R_below (by (with_reducible repeat (first | apply Kd.R_alloc | apply Kd.R_drewN | apply Kd.R_drew)); exact HO_7.out) hb)
                              have n1_ := Aside0.mk (blk_below (g := gb356) (o := .cells #[.int .i64 x357000_2, .int .i64 x357001_2] 26 (0, 0)) (by (with_reducible repeat (first | refine blk_drewN ?_ _ | refine blk_drew ?_ | refine blk_alloc ?_ _)); exact BK356.out) hb)
                              have n2_ := Aside0.mk (blk_below (g := gb362) (o := .cells #[.int .i64 ((rd_T57 l1 x25_2).f0), .bool ((rd_T57 l1 x25_2).f1), .int .i64 ((rd_T57 l1 x25_2).f2)] 57 (0, 0)) (by (with_reducible repeat (first | refine blk_drewN ?_ _ | refine blk_drew ?_ | refine blk_alloc ?_ _)); exact BK362.out) hb)
                              have n3_ := Aside0.mk (below_step (by repeat (first | (with_reducible first | exact HB.out | apply below_alloc | apply pw_below_drewN | apply below_drew1 | refine below_set ?_ GE356.out | refine below_set ?_ GE362.out) | exact HB.out)) hb)
                              clear HO_7
                              clear BK356
                              clear BK362
                              clear HB
                              have HO_7 := n0_
                              have BK356 := n1_
                              have BK362 := n2_
                              have HB := n3_
                              clear n0_ n1_ n2_ n3_
                              (try clear hb)
                              (try clear hb2)
                              (try clear hk)
                              (try clear hi)
                              refine hK.out _ _ ⟨(blk_cell BK362.out 0).trans rfl, (blk_cell BK362.out 1).trans rfl, (blk_cell BK362.out 2).trans rfl, HS3_, HS4_⟩ (fun hHeld => ?_)
                              clear hK K
                              refine norm_ (a' := ?_) ?_ ?_
                              rotate_left
                              · show Act.put _ (some 57) _ = _
                                simp only [Act.put, List.setIfInBounds_toArray, List.set_cons_zero, List.set_cons_succ, i64_w, i32_w]
                                rfl
                              refine pure_ (i := 9) (N := some 58) (v := ?_) (a' := ?_) #[true, true, true, true, true, true, true, true, true, true, false] rfl rfl (any_of HT_.out (by kernel_rfl)) (fun _ _ _ h => h) (Or.inl ⟨by rfl, ?_⟩) ?_ ?_
                              rotate_left
                              · intro w'
                                go_simp
                                with_reducible rfl
                              rotate_left
                              · simp only [Act.put, List.setIfInBounds_toArray, List.set_cons_zero, List.set_cons_succ, i64_w, i32_w]
                                rfl
                              refine pure_ (i := 10) (N := some 8) (v := ?_) (a' := ?_) #[true, true, true, true, true, true, true, true, true, true, true] rfl rfl (any_of HT_.out (by kernel_rfl)) (fun _ _ _ h => h) (Or.inl ⟨by rfl, ?_⟩) ?_ ?_
                              rotate_left
                              · intro w'
                                go_simp
                                with_reducible rfl
                              rotate_left
                              · simp only [Act.put, List.setIfInBounds_toArray, List.set_cons_zero, List.set_cons_succ, i64_w, i32_w]
                                rfl
                              refine done_ (done_of HT_.out (by kernel_rfl)) ?_
                              try go_wp2
                              have n0_ := Aside0.mk (Kd.R_drew HO_7.out)
                              have n1_ := Aside0.mk (blk_drew BK356.out)
                              have n2_ := Aside0.mk (blk_drew BK362.out)
                              have n3_ := Aside0.mk (below_drew1 HB.out)
                              clear HO_7
                              clear BK356
                              clear BK362
                              clear HB
                              have HO_7 := n0_
                              have BK356 := n1_
                              have BK362 := n2_
                              have HB := n3_
                              clear n0_ n1_ n2_ n3_
                              have p368 : 0 ≤ (((rd_T57 l1 x25_2).f0) : Int) := of_decide_eq_true (by first | (with_reducible assumption) | assumption)
                              have q368 : ((rd_T57 l1 x25_2).f0) < (x7_2.length : Int) := of_decide_eq_true (by first | (with_reducible assumption) | assumption)
                              obtain ⟨ad368, e368, hx368_0, hx368_1⟩ := at_T26 (Kd.R_reads' HO_7.out).2.2 ((rd_T57 l1 x25_2).f0) p368 q368
                              obtain rfl : ad366 = ad368 := (by injection e368)
                              replace p368 := eq_true p368
                              replace q368 := eq_true q368
                              refine start_ (n := 17) (S := fun w' => w'.cell? ⟨gb362, 0, none⟩ = some (.int .i64 ((rd_T57 l1 x25_2).f0)) ∧ w'.cell? ⟨gb362, 1, none⟩ = some (.bool ((rd_T57 l1 x25_2).f1)) ∧ w'.cell? ⟨gb362, 2, none⟩ = some (.int .i64 ((rd_T57 l1 x25_2).f2)) ∧ w'.cell? (ad366.add ((((rd_T57 l1 x25_2).f0)).toNat * 2)) = some (.int .i64 ((rd_T26 x7_2 ((rd_T57 l1 x25_2).f0)).f0)) ∧ w'.cell? ⟨(ad366.add ((((rd_T57 l1 x25_2).f0)).toNat * 2)).block, (ad366.add ((((rd_T57 l1 x25_2).f0)).toNat * 2)).off + 1, none⟩ = some (.int .i64 ((rd_T26 x7_2 ((rd_T57 l1 x25_2).f0)).f1))) (ds := []) #[false, false, false, false, false, false, false, false, false, false, false, false, false, false, false, false, false] (by kernel_rfl) rfl rfl ⟨(blk_cell BK362.out 0).trans rfl, (blk_cell BK362.out 1).trans rfl, (blk_cell BK362.out 2).trans rfl, hx368_0, hx368_1⟩ (fun hHeld => ?_); refine with_tabW spec_brAll.tab11 spec_brAll.bits11 (fun HT_ HW_ => ?_)
                              generalize w43.drew = w44 at HO_7 BK356 BK362 HB hx368_0 hx368_1 hHeld ⊢
                              refine pure_ (i := 0) (N := some 60) (v := ?_) (a' := ?_) #[true, false, false, false, false, false, false, false, false, false, false, false, false, false, false, false, false] rfl rfl (any_of HT_.out (by kernel_rfl)) (fun _ _ _ h => h) (Or.inl ⟨by rfl, ?_⟩) ?_ ?_
                              rotate_left
                              · intro w'
                                go_simp
                                with_reducible rfl
                              rotate_left
                              · simp only [Act.put, List.setIfInBounds_toArray, List.set_cons_zero, List.set_cons_succ, i64_w, i32_w]
                                rfl
                              refine pure_ (i := 1) (N := some 61) (v := ?_) (a' := ?_) #[true, true, false, false, false, false, false, false, false, false, false, false, false, false, false, false, false] rfl rfl (any_of HT_.out (by kernel_rfl)) (fun _ _ _ h => h) (Or.inl ⟨by rfl, ?_⟩) ?_ ?_
                              rotate_left
                              · intro w'
                                go_simp
                                with_reducible rfl
                              rotate_left
                              · simp only [Act.put, List.setIfInBounds_toArray, List.set_cons_zero, List.set_cons_succ, i64_w, i32_w]
                                rfl
                              refine pure_ (i := 5) (N := some 65) (v := ?_) (a' := ?_) #[true, true, false, false, false, true, false, false, false, false, false, false, false, false, false, false, false] rfl rfl (any_of HT_.out (by kernel_rfl)) (fun _ _ _ h => h) (Or.inl ⟨by rfl, ?_⟩) ?_ ?_
                              rotate_left
                              · intro w'
                                go_simp
                                with_reducible rfl
                              rotate_left
                              · simp only [Act.put, List.setIfInBounds_toArray, List.set_cons_zero, List.set_cons_succ, i64_w, i32_w]
                                rfl
                              refine pure_ (i := 7) (N := some 67) (v := ?_) (a' := ?_) #[true, true, false, false, false, true, false, true, false, false, false, false, false, false, false, false, false] rfl rfl (any_of HT_.out (by kernel_rfl)) (fun _ _ _ h => h) (Or.inl ⟨by rfl, ?_⟩) ?_ ?_
                              rotate_left
                              · intro w'
                                go_simp
                                with_reducible rfl
                              rotate_left
                              · simp only [Act.put, List.setIfInBounds_toArray, List.set_cons_zero, List.set_cons_succ, i64_w, i32_w]
                                rfl
                              refine take_ (i := 2) (N := some 62) (v := ?_) (a' := ?_) #[true, true, true, false, false, true, false, true, false, false, false, false, false, false, false, false, false] rfl rfl (take_ofW HT_.out HW_.out (by kernel_rfl)) (fun _ _ _ h => h) (Or.inl ⟨by rfl, ?_⟩) hHeld ?_ ?_
                              rotate_left
                              · rintro w' ⟨s0, s1, s2, s3, s4⟩
                                go_simp
                                with_reducible rfl
                              rotate_left
                              · simp only [Act.put, List.setIfInBounds_toArray, List.set_cons_zero, List.set_cons_succ, i64_w, i32_w]
                                rfl
                              refine pure_ (i := 3) (N := some 63) (v := ?_) (a' := ?_) #[true, true, true, true, false, true, false, true, false, false, false, false, false, false, false, false, false] rfl rfl (any_of HT_.out (by kernel_rfl)) (fun _ _ _ h => h) (Or.inl ⟨by rfl, ?_⟩) ?_ ?_
                              rotate_left
                              · intro w'
                                go_simp
                                with_reducible rfl
                              rotate_left
                              · simp only [Act.put, List.setIfInBounds_toArray, List.set_cons_zero, List.set_cons_succ, i64_w, i32_w]
                                rfl
                              refine take_ (i := 4) (N := some 64) (v := ?_) (a' := ?_) #[true, true, true, true, true, true, false, true, false, false, false, false, false, false, false, false, false] rfl rfl (take_ofW HT_.out HW_.out (by kernel_rfl)) (fun _ _ _ h => h) (Or.inl ⟨by rfl, ?_⟩) hHeld ?_ ?_
                              rotate_left
                              · rintro w' ⟨s0, s1, s2, s3, s4⟩
                                go_simp
                                with_reducible rfl
                              rotate_left
                              · simp only [Act.put, List.setIfInBounds_toArray, List.set_cons_zero, List.set_cons_succ, i64_w, i32_w]
                                rfl
                              refine take_ (i := 6) (N := some 66) (v := ?_) (a' := ?_) #[true, true, true, true, true, true, true, true, false, false, false, false, false, false, false, false, false] rfl rfl (take_ofW HT_.out HW_.out (by kernel_rfl)) (fun _ _ _ h => h) (Or.inl ⟨by rfl, ?_⟩) hHeld ?_ ?_
                              rotate_left
                              · rintro w' ⟨s0, s1, s2, s3, s4⟩
                                go_simp
                                with_reducible rfl
                              rotate_left
                              · simp only [Act.put, List.setIfInBounds_toArray, List.set_cons_zero, List.set_cons_succ, i64_w, i32_w]
                                rfl
                              refine take_ (i := 8) (N := some 68) (v := ?_) (a' := ?_) #[true, true, true, true, true, true, true, true, true, false, false, false, false, false, false, false, false] rfl rfl (take_ofW HT_.out HW_.out (by kernel_rfl)) (fun _ _ _ h => h) (Or.inl ⟨by rfl, ?_⟩) hHeld ?_ ?_
                              rotate_left
                              · rintro w' ⟨s0, s1, s2, s3, s4⟩
                                go_simp
                                with_reducible rfl
                              rotate_left
                              · simp only [Act.put, List.setIfInBounds_toArray, List.set_cons_zero, List.set_cons_succ, i64_w, i32_w]
                                rfl
                              refine join_ (σ := Nat × Nat) 2 #[true, true, true, true, true, true, true, true, true, true, true, true, true, true, true, false, false] (fun s_ => [(69, .tuple #[.agg #[.int .i64 t369, .int .i64 t370], .agg #[.int .i64 t371, .int .i64 t372]]), (11, .pointer (some ⟨s_.1, 0, none⟩)), (12, .pointer (some ⟨s_.2, 0, none⟩)), (59, .tuple #[.agg #[.int .i64 t369, .int .i64 t370], .agg #[.int .i64 t371, .int .i64 t372]]), (70, .agg #[.int .i64 t369, .int .i64 t370]), (71, .agg #[.int .i64 t371, .int .i64 t372])]) (fun s_ w' => (w'.cell? ⟨gb362, 0, none⟩ = some (.int .i64 ((rd_T57 l1 x25_2).f0)) ∧ w'.cell? ⟨gb362, 1, none⟩ = some (.bool ((rd_T57 l1 x25_2).f1)) ∧ w'.cell? ⟨gb362, 2, none⟩ = some (.int .i64 ((rd_T57 l1 x25_2).f2)) ∧ w'.cell? (ad366.add ((((rd_T57 l1 x25_2).f0)).toNat * 2)) = some (.int .i64 ((rd_T26 x7_2 ((rd_T57 l1 x25_2).f0)).f0)) ∧ w'.cell? ⟨(ad366.add ((((rd_T57 l1 x25_2).f0)).toNat * 2)).block, (ad366.add ((((rd_T57 l1 x25_2).f0)).toNat * 2)).off + 1, none⟩ = some (.int .i64 ((rd_T26 x7_2 ((rd_T57 l1 x25_2).f0)).f1))) ∧ (Kd.R k26 26 w' w.heap.size (fun k_ => k_ ≠ gb356 ∧ k_ ≠ s_.1 ∧ k_ ≠ s_.2) (.slice (some ad366) x7_2.length co42) x7_2) ∧ (w'.heap[gb356]? = some (.cells #[.int .i64 x357000_2, .int .i64 x357001_2] 26 (0, 0))) ∧ (w'.heap[gb362]? = some (.cells #[.int .i64 ((rd_T57 l1 x25_2).f0), .bool ((rd_T57 l1 x25_2).f1), .int .i64 ((rd_T57 l1 x25_2).f2)] 57 (0, 0))) ∧ (w'.heap[s_.1]? = some (.cells #[.int .i64 0, .int .i64 0] 26 (0, 0))) ∧ (w'.heap[s_.2]? = some (.cells #[.int .i64 0, .int .i64 0] 26 (0, 0))) ∧ (w.heap.size ≤ s_.1) ∧ (w.heap.size ≤ s_.1) ∧ (gb356 ≠ s_.1) ∧ (s_.1 ≠ gb356) ∧ (gb362 ≠ s_.1) ∧ (s_.1 ≠ gb362) ∧ (s_.2 ≠ s_.1) ∧ (s_.1 ≠ s_.2) ∧ (w.heap.size ≤ s_.2) ∧ (w.heap.size ≤ s_.2) ∧ (gb356 ≠ s_.2) ∧ (s_.2 ≠ gb356) ∧ (gb362 ≠ s_.2) ∧ (s_.2 ≠ gb362) ∧ (Below w.heap.size w w')) ?_ ?_
                              rotate_left
                              · intro hJ9_13_14
                                refine join_ (σ := Nat) 3 #[true, true, true, true, true, true, true, true, true, true, true, true, true, true, false, false, false] (fun s_ => [(69, .tuple #[.agg #[.int .i64 t369, .int .i64 t370], .agg #[.int .i64 t371, .int .i64 t372]]), (11, .pointer (some ⟨s_, 0, none⟩)), (59, .tuple #[.agg #[.int .i64 t369, .int .i64 t370], .agg #[.int .i64 t371, .int .i64 t372]]), (70, .agg #[.int .i64 t369, .int .i64 t370]), (71, .agg #[.int .i64 t371, .int .i64 t372])]) (fun s_ w' => (w'.cell? ⟨gb362, 0, none⟩ = some (.int .i64 ((rd_T57 l1 x25_2).f0)) ∧ w'.cell? ⟨gb362, 1, none⟩ = some (.bool ((rd_T57 l1 x25_2).f1)) ∧ w'.cell? ⟨gb362, 2, none⟩ = some (.int .i64 ((rd_T57 l1 x25_2).f2)) ∧ w'.cell? (ad366.add ((((rd_T57 l1 x25_2).f0)).toNat * 2)) = some (.int .i64 ((rd_T26 x7_2 ((rd_T57 l1 x25_2).f0)).f0)) ∧ w'.cell? ⟨(ad366.add ((((rd_T57 l1 x25_2).f0)).toNat * 2)).block, (ad366.add ((((rd_T57 l1 x25_2).f0)).toNat * 2)).off + 1, none⟩ = some (.int .i64 ((rd_T26 x7_2 ((rd_T57 l1 x25_2).f0)).f1))) ∧ (Kd.R k26 26 w' w.heap.size (fun k_ => k_ ≠ gb356 ∧ k_ ≠ s_) (.slice (some ad366) x7_2.length co42) x7_2) ∧ (w'.heap[gb356]? = some (.cells #[.int .i64 x357000_2, .int .i64 x357001_2] 26 (0, 0))) ∧ (w'.heap[gb362]? = some (.cells #[.int .i64 ((rd_T57 l1 x25_2).f0), .bool ((rd_T57 l1 x25_2).f1), .int .i64 ((rd_T57 l1 x25_2).f2)] 57 (0, 0))) ∧ (w'.heap[s_]? = some (.cells #[.int .i64 0, .int .i64 0] 26 (0, 0))) ∧ (w.heap.size ≤ s_) ∧ (w.heap.size ≤ s_) ∧ (gb356 ≠ s_) ∧ (s_ ≠ gb356) ∧ (gb362 ≠ s_) ∧ (s_ ≠ gb362) ∧ (Below w.heap.size w w')) ?_ ?_
                                rotate_left
                                · intro hJ9_13
                                  refine join_ (σ := Nat) 3 #[true, true, true, true, true, true, true, true, true, true, true, true, true, false, true, false, false] (fun s_ => [(69, .tuple #[.agg #[.int .i64 t369, .int .i64 t370], .agg #[.int .i64 t371, .int .i64 t372]]), (12, .pointer (some ⟨s_, 0, none⟩)), (59, .tuple #[.agg #[.int .i64 t369, .int .i64 t370], .agg #[.int .i64 t371, .int .i64 t372]]), (70, .agg #[.int .i64 t369, .int .i64 t370]), (71, .agg #[.int .i64 t371, .int .i64 t372])]) (fun s_ w' => (w'.cell? ⟨gb362, 0, none⟩ = some (.int .i64 ((rd_T57 l1 x25_2).f0)) ∧ w'.cell? ⟨gb362, 1, none⟩ = some (.bool ((rd_T57 l1 x25_2).f1)) ∧ w'.cell? ⟨gb362, 2, none⟩ = some (.int .i64 ((rd_T57 l1 x25_2).f2)) ∧ w'.cell? (ad366.add ((((rd_T57 l1 x25_2).f0)).toNat * 2)) = some (.int .i64 ((rd_T26 x7_2 ((rd_T57 l1 x25_2).f0)).f0)) ∧ w'.cell? ⟨(ad366.add ((((rd_T57 l1 x25_2).f0)).toNat * 2)).block, (ad366.add ((((rd_T57 l1 x25_2).f0)).toNat * 2)).off + 1, none⟩ = some (.int .i64 ((rd_T26 x7_2 ((rd_T57 l1 x25_2).f0)).f1))) ∧ (Kd.R k26 26 w' w.heap.size (fun k_ => k_ ≠ gb356 ∧ k_ ≠ s_) (.slice (some ad366) x7_2.length co42) x7_2) ∧ (w'.heap[gb356]? = some (.cells #[.int .i64 x357000_2, .int .i64 x357001_2] 26 (0, 0))) ∧ (w'.heap[gb362]? = some (.cells #[.int .i64 ((rd_T57 l1 x25_2).f0), .bool ((rd_T57 l1 x25_2).f1), .int .i64 ((rd_T57 l1 x25_2).f2)] 57 (0, 0))) ∧ (w'.heap[s_]? = some (.cells #[.int .i64 0, .int .i64 0] 26 (0, 0))) ∧ (w.heap.size ≤ s_) ∧ (w.heap.size ≤ s_) ∧ (gb356 ≠ s_) ∧ (s_ ≠ gb356) ∧ (gb362 ≠ s_) ∧ (s_ ≠ gb362) ∧ (Below w.heap.size w w')) ?_ ?_
                                  rotate_left
                                  · intro hJ9_14
                                    refine join_ (σ := Nat × Nat) 6 #[true, true, true, true, true, true, true, true, true, false, false, false, false, true, true, false, false] (fun s_ => [(11, .pointer (some ⟨s_.1, 0, none⟩)), (12, .pointer (some ⟨s_.2, 0, none⟩))]) (fun s_ w' => (w'.cell? ⟨gb362, 0, none⟩ = some (.int .i64 ((rd_T57 l1 x25_2).f0)) ∧ w'.cell? ⟨gb362, 1, none⟩ = some (.bool ((rd_T57 l1 x25_2).f1)) ∧ w'.cell? ⟨gb362, 2, none⟩ = some (.int .i64 ((rd_T57 l1 x25_2).f2)) ∧ w'.cell? (ad366.add ((((rd_T57 l1 x25_2).f0)).toNat * 2)) = some (.int .i64 ((rd_T26 x7_2 ((rd_T57 l1 x25_2).f0)).f0)) ∧ w'.cell? ⟨(ad366.add ((((rd_T57 l1 x25_2).f0)).toNat * 2)).block, (ad366.add ((((rd_T57 l1 x25_2).f0)).toNat * 2)).off + 1, none⟩ = some (.int .i64 ((rd_T26 x7_2 ((rd_T57 l1 x25_2).f0)).f1))) ∧ (Kd.R k26 26 w' w.heap.size (fun k_ => k_ ≠ gb356 ∧ k_ ≠ s_.1 ∧ k_ ≠ s_.2) (.slice (some ad366) x7_2.length co42) x7_2) ∧ (w'.heap[gb356]? = some (.cells #[.int .i64 x357000_2, .int .i64 x357001_2] 26 (0, 0))) ∧ (w'.heap[gb362]? = some (.cells #[.int .i64 ((rd_T57 l1 x25_2).f0), .bool ((rd_T57 l1 x25_2).f1), .int .i64 ((rd_T57 l1 x25_2).f2)] 57 (0, 0))) ∧ (w'.heap[s_.1]? = some (.cells #[.int .i64 0, .int .i64 0] 26 (0, 0))) ∧ (w'.heap[s_.2]? = some (.cells #[.int .i64 0, .int .i64 0] 26 (0, 0))) ∧ (w.heap.size ≤ s_.1) ∧ (w.heap.size ≤ s_.1) ∧ (gb356 ≠ s_.1) ∧ (s_.1 ≠ gb356) ∧ (gb362 ≠ s_.1) ∧ (s_.1 ≠ gb362) ∧ (s_.2 ≠ s_.1) ∧ (s_.1 ≠ s_.2) ∧ (w.heap.size ≤ s_.2) ∧ (w.heap.size ≤ s_.2) ∧ (gb356 ≠ s_.2) ∧ (s_.2 ≠ gb356) ∧ (gb362 ≠ s_.2) ∧ (s_.2 ≠ gb362) ∧ (Below w.heap.size w w')) ?_ ?_
                                    rotate_left
                                    · intro hJ13_14
                                      refine join_ (σ := Unit) 4 #[true, true, true, true, true, true, true, true, true, true, true, true, true, false, false, false, false] (fun s_ => [(69, .tuple #[.agg #[.int .i64 t369, .int .i64 t370], .agg #[.int .i64 t371, .int .i64 t372]]), (59, .tuple #[.agg #[.int .i64 t369, .int .i64 t370], .agg #[.int .i64 t371, .int .i64 t372]]), (70, .agg #[.int .i64 t369, .int .i64 t370]), (71, .agg #[.int .i64 t371, .int .i64 t372])]) (fun s_ w' => (w'.cell? ⟨gb362, 0, none⟩ = some (.int .i64 ((rd_T57 l1 x25_2).f0)) ∧ w'.cell? ⟨gb362, 1, none⟩ = some (.bool ((rd_T57 l1 x25_2).f1)) ∧ w'.cell? ⟨gb362, 2, none⟩ = some (.int .i64 ((rd_T57 l1 x25_2).f2)) ∧ w'.cell? (ad366.add ((((rd_T57 l1 x25_2).f0)).toNat * 2)) = some (.int .i64 ((rd_T26 x7_2 ((rd_T57 l1 x25_2).f0)).f0)) ∧ w'.cell? ⟨(ad366.add ((((rd_T57 l1 x25_2).f0)).toNat * 2)).block, (ad366.add ((((rd_T57 l1 x25_2).f0)).toNat * 2)).off + 1, none⟩ = some (.int .i64 ((rd_T26 x7_2 ((rd_T57 l1 x25_2).f0)).f1))) ∧ (Kd.R k26 26 w' w.heap.size (fun k_ => k_ ≠ gb356) (.slice (some ad366) x7_2.length co42) x7_2) ∧ (w'.heap[gb356]? = some (.cells #[.int .i64 x357000_2, .int .i64 x357001_2] 26 (0, 0))) ∧ (w'.heap[gb362]? = some (.cells #[.int .i64 ((rd_T57 l1 x25_2).f0), .bool ((rd_T57 l1 x25_2).f1), .int .i64 ((rd_T57 l1 x25_2).f2)] 57 (0, 0))) ∧ (Below w.heap.size w w')) ?_ ?_
                                      rotate_left
                                      · intro hJ9
                                        refine join_ (σ := Nat) 7 #[true, true, true, true, true, true, true, true, true, false, false, false, false, true, false, false, false] (fun s_ => [(11, .pointer (some ⟨s_, 0, none⟩))]) (fun s_ w' => (w'.cell? ⟨gb362, 0, none⟩ = some (.int .i64 ((rd_T57 l1 x25_2).f0)) ∧ w'.cell? ⟨gb362, 1, none⟩ = some (.bool ((rd_T57 l1 x25_2).f1)) ∧ w'.cell? ⟨gb362, 2, none⟩ = some (.int .i64 ((rd_T57 l1 x25_2).f2)) ∧ w'.cell? (ad366.add ((((rd_T57 l1 x25_2).f0)).toNat * 2)) = some (.int .i64 ((rd_T26 x7_2 ((rd_T57 l1 x25_2).f0)).f0)) ∧ w'.cell? ⟨(ad366.add ((((rd_T57 l1 x25_2).f0)).toNat * 2)).block, (ad366.add ((((rd_T57 l1 x25_2).f0)).toNat * 2)).off + 1, none⟩ = some (.int .i64 ((rd_T26 x7_2 ((rd_T57 l1 x25_2).f0)).f1))) ∧ (Kd.R k26 26 w' w.heap.size (fun k_ => k_ ≠ gb356 ∧ k_ ≠ s_) (.slice (some ad366) x7_2.length co42) x7_2) ∧ (w'.heap[gb356]? = some (.cells #[.int .i64 x357000_2, .int .i64 x357001_2] 26 (0, 0))) ∧ (w'.heap[gb362]? = some (.cells #[.int .i64 ((rd_T57 l1 x25_2).f0), .bool ((rd_T57 l1 x25_2).f1), .int .i64 ((rd_T57 l1 x25_2).f2)] 57 (0, 0))) ∧ (w'.heap[s_]? = some (.cells #[.int .i64 0, .int .i64 0] 26 (0, 0))) ∧ (w.heap.size ≤ s_) ∧ (w.heap.size ≤ s_) ∧ (gb356 ≠ s_) ∧ (s_ ≠ gb356) ∧ (gb362 ≠ s_) ∧ (s_ ≠ gb362) ∧ (Below w.heap.size w w')) ?_ ?_
                                        rotate_left
                                        · intro hJ13
                                          refine join_ (σ := Nat) 7 #[true, true, true, true, true, true, true, true, true, false, false, false, false, false, true, false, false] (fun s_ => [(12, .pointer (some ⟨s_, 0, none⟩))]) (fun s_ w' => (w'.cell? ⟨gb362, 0, none⟩ = some (.int .i64 ((rd_T57 l1 x25_2).f0)) ∧ w'.cell? ⟨gb362, 1, none⟩ = some (.bool ((rd_T57 l1 x25_2).f1)) ∧ w'.cell? ⟨gb362, 2, none⟩ = some (.int .i64 ((rd_T57 l1 x25_2).f2)) ∧ w'.cell? (ad366.add ((((rd_T57 l1 x25_2).f0)).toNat * 2)) = some (.int .i64 ((rd_T26 x7_2 ((rd_T57 l1 x25_2).f0)).f0)) ∧ w'.cell? ⟨(ad366.add ((((rd_T57 l1 x25_2).f0)).toNat * 2)).block, (ad366.add ((((rd_T57 l1 x25_2).f0)).toNat * 2)).off + 1, none⟩ = some (.int .i64 ((rd_T26 x7_2 ((rd_T57 l1 x25_2).f0)).f1))) ∧ (Kd.R k26 26 w' w.heap.size (fun k_ => k_ ≠ gb356 ∧ k_ ≠ s_) (.slice (some ad366) x7_2.length co42) x7_2) ∧ (w'.heap[gb356]? = some (.cells #[.int .i64 x357000_2, .int .i64 x357001_2] 26 (0, 0))) ∧ (w'.heap[gb362]? = some (.cells #[.int .i64 ((rd_T57 l1 x25_2).f0), .bool ((rd_T57 l1 x25_2).f1), .int .i64 ((rd_T57 l1 x25_2).f2)] 57 (0, 0))) ∧ (w'.heap[s_]? = some (.cells #[.int .i64 0, .int .i64 0] 26 (0, 0))) ∧ (w.heap.size ≤ s_) ∧ (w.heap.size ≤ s_) ∧ (gb356 ≠ s_) ∧ (s_ ≠ gb356) ∧ (gb362 ≠ s_) ∧ (s_ ≠ gb362) ∧ (Below w.heap.size w w')) ?_ ?_
                                          rotate_left
                                          · intro hJ14
                                            refine three_ (i := 9) (j := 13) (k := 14) (Ni := some 69) (Nj := some 11) (Nk := some 12) #[true, true, true, true, true, true, true, true, true, true, false, false, false, false, false, false, false] #[true, true, true, true, true, true, true, true, true, false, false, false, false, true, false, false, false] #[true, true, true, true, true, true, true, true, true, false, false, false, false, false, true, false, false] rfl rfl rfl rfl rfl rfl (three_of HT_.out (by kernel_rfl)) (by decide) (by decide) (by decide) (fun K hK => ?_) (fun K hK => ?_) (fun K hK => ?_)
                                            · skip
                                              refine goes_ Try.func49 (by kernel_rfl) rfl #[.agg #[.int .i64 ((rd_T26 x7_2 ((rd_T57 l1 x25_2).f0)).f0), .int .i64 ((rd_T26 x7_2 ((rd_T57 l1 x25_2).f0)).f1)], .bool ((rd_T57 l1 x25_2).f1), .int .i64 ((rd_T57 l1 x25_2).f2)] (by rfl) rfl rfl (by (try simp only [List.map_toArray, List.map_cons, List.map_nil]); first | done | rfl | (simp only [List.length_drop, List.length_take]; rfl)) ?_
                                              with_reducible refine (spec_brParts.calls ((rd_T26 x7_2 ((rd_T57 l1 x25_2).f0)).f0) ((rd_T26 x7_2 ((rd_T57 l1 x25_2).f0)).f1) ((rd_T57 l1 x25_2).f1) ((rd_T57 l1 x25_2).f2) t369 t370 t371 t372 _ A38.out).mono ?_
                                              rintro e w45 ⟨rfl, hb⟩
                                              have HS3_ := (hb.cell (World.block_lt_of_cell? _ _ (hHeld.2.2.2.1))).trans (hHeld.2.2.2.1)
                                              have HS4_ := (hb.cell (World.block_lt_of_cell? _ _ (hHeld.2.2.2.2))).trans (hHeld.2.2.2.2)
                                              refine ⟨_, rfl, ?_⟩
                                              have n0_ := Aside0.mk (Kd.R_below (by (with_reducible repeat (first | apply Kd.R_alloc | apply Kd.R_drewN | apply Kd.R_drew)); exact HO_7.out) hb)
                                              have n1_ := Aside0.mk (blk_below (g := gb356) (o := .cells #[.int .i64 x357000_2, .int .i64 x357001_2] 26 (0, 0)) (by (with_reducible repeat (first | refine blk_drewN ?_ _ | refine blk_drew ?_ | refine blk_alloc ?_ _)); exact BK356.out) hb)
                                              have n2_ := Aside0.mk (blk_below (g := gb362) (o := .cells #[.int .i64 ((rd_T57 l1 x25_2).f0), .bool ((rd_T57 l1 x25_2).f1), .int .i64 ((rd_T57 l1 x25_2).f2)] 57 (0, 0)) (by (with_reducible repeat (first | refine blk_drewN ?_ _ | refine blk_drew ?_ | refine blk_alloc ?_ _)); exact BK362.out) hb)
                                              have n3_ := Aside0.mk (below_step (by repeat (first | (with_reducible first | exact HB.out | apply below_alloc | apply pw_below_drewN | apply below_drew1 | refine below_set ?_ GE356.out | refine below_set ?_ GE362.out) | exact HB.out)) hb)
                                              clear HO_7
                                              clear BK356
                                              clear BK362
                                              clear HB
                                              have HO_7 := n0_
                                              have BK356 := n1_
                                              have BK362 := n2_
                                              have HB := n3_
                                              clear n0_ n1_ n2_ n3_
                                              (try clear hb)
                                              (try clear hb2)
                                              (try clear hk)
                                              (try clear hi)
                                              refine hK.out _ _ ⟨(blk_cell BK362.out 0).trans rfl, (blk_cell BK362.out 1).trans rfl, (blk_cell BK362.out 2).trans rfl, HS3_, HS4_⟩ (fun hHeld => ?_)
                                              clear hK K
                                              refine norm_ (a' := ?_) ?_ ?_
                                              rotate_left
                                              · show Act.put _ (some 69) _ = _
                                                simp only [Act.put, List.setIfInBounds_toArray, List.set_cons_zero, List.set_cons_succ, i64_w, i32_w]
                                                rfl
                                              refine pure_ (i := 10) (N := some 59) (v := ?_) (a' := ?_) #[true, true, true, true, true, true, true, true, true, true, true, false, false, false, false, false, false] rfl rfl (any_of HT_.out (by kernel_rfl)) (fun _ _ _ h => h) (Or.inl ⟨by rfl, ?_⟩) ?_ ?_
                                              rotate_left
                                              · intro w'
                                                go_simp
                                                with_reducible rfl
                                              rotate_left
                                              · simp only [Act.put, List.setIfInBounds_toArray, List.set_cons_zero, List.set_cons_succ, i64_w, i32_w]
                                                rfl
                                              refine pure_ (i := 11) (N := some 70) (v := ?_) (a' := ?_) #[true, true, true, true, true, true, true, true, true, true, true, true, false, false, false, false, false] rfl rfl (any_of HT_.out (by kernel_rfl)) (fun _ _ _ h => h) (Or.inl ⟨by rfl, ?_⟩) ?_ ?_
                                              rotate_left
                                              · intro w'
                                                go_simp
                                                with_reducible rfl
                                              rotate_left
                                              · simp only [Act.put, List.setIfInBounds_toArray, List.set_cons_zero, List.set_cons_succ, i64_w, i32_w]
                                                rfl
                                              refine pure_ (i := 12) (N := some 71) (v := ?_) (a' := ?_) #[true, true, true, true, true, true, true, true, true, true, true, true, true, false, false, false, false] rfl rfl (any_of HT_.out (by kernel_rfl)) (fun _ _ _ h => h) (Or.inl ⟨by rfl, ?_⟩) ?_ ?_
                                              rotate_left
                                              · intro w'
                                                go_simp
                                                with_reducible rfl
                                              rotate_left
                                              · simp only [Act.put, List.setIfInBounds_toArray, List.set_cons_zero, List.set_cons_succ, i64_w, i32_w]
                                                rfl
                                              exact norm_ (by first | (simp only [putAll, Act.put, List.setIfInBounds_toArray, List.set_cons_zero, List.set_cons_succ]; done) | (simp only [putAll, Act.put, List.setIfInBounds_toArray, List.set_cons_zero, List.set_cons_succ]; rfl)) (hJ9 () _ ⟨hHeld, (by (with_reducible repeat (first | apply Kd.R_alloc | apply Kd.R_drewN | apply Kd.R_drew)); exact HO_7.out), (by (with_reducible repeat (first | refine blk_drewN ?_ _ | refine blk_drew ?_ | refine blk_alloc ?_ _)); exact BK356.out), (by (with_reducible repeat (first | refine blk_drewN ?_ _ | refine blk_drew ?_ | refine blk_alloc ?_ _)); exact BK362.out), (by repeat (first | (with_reducible first | exact HB.out | apply below_alloc | apply pw_below_drewN | apply below_drew1 | refine below_set ?_ GE356.out | refine below_set ?_ GE362.out) | exact HB.out))⟩)
                                            · skip
                                              refine box_step ?hg (N := 11) ?hd (cs := #[.int .i64 0, .int .i64 0]) (t := 26) ?hr ?_; (case hd => rfl); (case hg => rfl); (case hr => first | (go_simp; done) | (go_simp; rfl))
                                              intro gb373 hg w45 hbox hb
                                              have HS3_ := (hb.cell (World.block_lt_of_cell? _ _ (hHeld.2.2.2.1))).trans (hHeld.2.2.2.1)
                                              have HS4_ := (hb.cell (World.block_lt_of_cell? _ _ (hHeld.2.2.2.2))).trans (hHeld.2.2.2.2)
                                              have n0_ := Aside0.mk (Kd.R_below (Kd.R_elderB (by (with_reducible repeat (first | apply Kd.R_alloc | apply Kd.R_drewN | apply Kd.R_drew)); exact HO_7.out) gb373 (Nat.le_of_eq hg.symm)) hb)
                                              have n1_ := Aside0.mk (blk_below (g := gb356) (o := .cells #[.int .i64 x357000_2, .int .i64 x357001_2] 26 (0, 0)) (by (with_reducible repeat (first | refine blk_drewN ?_ _ | refine blk_drew ?_ | refine blk_alloc ?_ _)); exact BK356.out) hb)
                                              have n2_ := Aside0.mk (blk_below (g := gb362) (o := .cells #[.int .i64 ((rd_T57 l1 x25_2).f0), .bool ((rd_T57 l1 x25_2).f1), .int .i64 ((rd_T57 l1 x25_2).f2)] 57 (0, 0)) (by (with_reducible repeat (first | refine blk_drewN ?_ _ | refine blk_drew ?_ | refine blk_alloc ?_ _)); exact BK362.out) hb)
                                              have n3_ := Aside0.mk (below_step (by repeat (first | (with_reducible first | exact HB.out | apply below_alloc | apply pw_below_drewN | apply below_drew1 | refine below_set ?_ GE356.out | refine below_set ?_ GE362.out) | exact HB.out)) hb)
                                              have n4_ := Aside0.mk (hbox)
                                              have n5_ := Aside0.mk ((by rw [hg]; exact (below_size (by repeat (first | (with_reducible first | exact HB.out | apply below_alloc | apply pw_below_drewN | apply below_drew1 | refine below_set ?_ GE356.out | refine below_set ?_ GE362.out) | exact HB.out))) : w.heap.size ≤ gb373))
                                              have n6_ := Aside0.mk ((by rw [hg]; exact (below_size (by repeat (first | (with_reducible first | exact HB.out | apply below_alloc | apply pw_below_drewN | apply below_drew1 | refine below_set ?_ GE356.out | refine below_set ?_ GE362.out) | exact HB.out))) : w.heap.size ≤ gb373))
                                              have n7_ := Aside0.mk ((by rw [hg]; exact Nat.ne_of_lt (blk_lt (g := gb356) (o := .cells #[.int .i64 x357000_2, .int .i64 x357001_2] 26 (0, 0)) (by (with_reducible repeat (first | refine blk_drewN ?_ _ | refine blk_drew ?_ | refine blk_alloc ?_ _)); exact BK356.out)) : gb356 ≠ gb373))
                                              have n8_ := Aside0.mk ((by rw [hg]; exact Nat.ne_of_gt (blk_lt (g := gb356) (o := .cells #[.int .i64 x357000_2, .int .i64 x357001_2] 26 (0, 0)) (by (with_reducible repeat (first | refine blk_drewN ?_ _ | refine blk_drew ?_ | refine blk_alloc ?_ _)); exact BK356.out)) : gb373 ≠ gb356))
                                              have n9_ := Aside0.mk ((by rw [hg]; exact Nat.ne_of_lt (blk_lt (g := gb362) (o := .cells #[.int .i64 ((rd_T57 l1 x25_2).f0), .bool ((rd_T57 l1 x25_2).f1), .int .i64 ((rd_T57 l1 x25_2).f2)] 57 (0, 0)) (by (with_reducible repeat (first | refine blk_drewN ?_ _ | refine blk_drew ?_ | refine blk_alloc ?_ _)); exact BK362.out)) : gb362 ≠ gb373))
                                              have n10_ := Aside0.mk ((by rw [hg]; exact Nat.ne_of_gt (blk_lt (g := gb362) (o := .cells #[.int .i64 ((rd_T57 l1 x25_2).f0), .bool ((rd_T57 l1 x25_2).f1), .int .i64 ((rd_T57 l1 x25_2).f2)] 57 (0, 0)) (by (with_reducible repeat (first | refine blk_drewN ?_ _ | refine blk_drew ?_ | refine blk_alloc ?_ _)); exact BK362.out)) : gb373 ≠ gb362))
                                              clear HO_7
                                              clear BK356
                                              clear BK362
                                              clear HB
                                              have HO_7 := n0_
                                              have BK356 := n1_
                                              have BK362 := n2_
                                              have HB := n3_
                                              have BK373 := n4_
                                              have GW373 := n5_
                                              have GE373 := n6_
                                              have NB356_373 := n7_
                                              have NB373_356 := n8_
                                              have NB362_373 := n9_
                                              have NB373_362 := n10_
                                              clear n0_ n1_ n2_ n3_ n4_ n5_ n6_ n7_ n8_ n9_ n10_
                                              clear hb hbox hg
                                              refine hK.out _ _ ⟨(blk_cell BK362.out 0).trans rfl, (blk_cell BK362.out 1).trans rfl, (blk_cell BK362.out 2).trans rfl, HS3_, HS4_⟩ (fun hHeld => ?_)
                                              clear hK K
                                              refine norm_ (a' := ?_) ?_ ?_
                                              rotate_left
                                              · show Act.put _ (some 11) _ = _
                                                simp only [Act.put, List.setIfInBounds_toArray, List.set_cons_zero, List.set_cons_succ, i64_w, i32_w]
                                                rfl
                                              exact norm_ (by first | (simp only [putAll, Act.put, List.setIfInBounds_toArray, List.set_cons_zero, List.set_cons_succ]; done) | (simp only [putAll, Act.put, List.setIfInBounds_toArray, List.set_cons_zero, List.set_cons_succ]; rfl)) (hJ13 (gb373) _ ⟨hHeld, (by (with_reducible repeat (first | apply Kd.R_alloc | apply Kd.R_drewN | apply Kd.R_drew)); exact HO_7.out), (by (with_reducible repeat (first | refine blk_drewN ?_ _ | refine blk_drew ?_ | refine blk_alloc ?_ _)); exact BK356.out), (by (with_reducible repeat (first | refine blk_drewN ?_ _ | refine blk_drew ?_ | refine blk_alloc ?_ _)); exact BK362.out), (by (with_reducible repeat (first | refine blk_drewN ?_ _ | refine blk_drew ?_ | refine blk_alloc ?_ _)); exact BK373.out), GW373.out, GE373.out, NB356_373.out, NB373_356.out, NB362_373.out, NB373_362.out, (by repeat (first | (with_reducible first | exact HB.out | apply below_alloc | apply pw_below_drewN | apply below_drew1 | refine below_set ?_ GE356.out | refine below_set ?_ GE362.out | refine below_set ?_ GE373.out) | exact HB.out))⟩)
                                            · skip
                                              refine box_step ?hg (N := 12) ?hd (cs := #[.int .i64 0, .int .i64 0]) (t := 26) ?hr ?_; (case hd => rfl); (case hg => rfl); (case hr => first | (go_simp; done) | (go_simp; rfl))
                                              intro gb374 hg w45 hbox hb
                                              have HS3_ := (hb.cell (World.block_lt_of_cell? _ _ (hHeld.2.2.2.1))).trans (hHeld.2.2.2.1)
                                              have HS4_ := (hb.cell (World.block_lt_of_cell? _ _ (hHeld.2.2.2.2))).trans (hHeld.2.2.2.2)
                                              have n0_ := Aside0.mk (Kd.R_below (Kd.R_elderB (by (with_reducible repeat (first | apply Kd.R_alloc | apply Kd.R_drewN | apply Kd.R_drew)); exact HO_7.out) gb374 (Nat.le_of_eq hg.symm)) hb)
                                              have n1_ := Aside0.mk (blk_below (g := gb356) (o := .cells #[.int .i64 x357000_2, .int .i64 x357001_2] 26 (0, 0)) (by (with_reducible repeat (first | refine blk_drewN ?_ _ | refine blk_drew ?_ | refine blk_alloc ?_ _)); exact BK356.out) hb)
                                              have n2_ := Aside0.mk (blk_below (g := gb362) (o := .cells #[.int .i64 ((rd_T57 l1 x25_2).f0), .bool ((rd_T57 l1 x25_2).f1), .int .i64 ((rd_T57 l1 x25_2).f2)] 57 (0, 0)) (by (with_reducible repeat (first | refine blk_drewN ?_ _ | refine blk_drew ?_ | refine blk_alloc ?_ _)); exact BK362.out) hb)
                                              have n3_ := Aside0.mk (below_step (by repeat (first | (with_reducible first | exact HB.out | apply below_alloc | apply pw_below_drewN | apply below_drew1 | refine below_set ?_ GE356.out | refine below_set ?_ GE362.out) | exact HB.out)) hb)
                                              have n4_ := Aside0.mk (hbox)
                                              have n5_ := Aside0.mk ((by rw [hg]; exact (below_size (by repeat (first | (with_reducible first | exact HB.out | apply below_alloc | apply pw_below_drewN | apply below_drew1 | refine below_set ?_ GE356.out | refine below_set ?_ GE362.out) | exact HB.out))) : w.heap.size ≤ gb374))
                                              have n6_ := Aside0.mk ((by rw [hg]; exact (below_size (by repeat (first | (with_reducible first | exact HB.out | apply below_alloc | apply pw_below_drewN | apply below_drew1 | refine below_set ?_ GE356.out | refine below_set ?_ GE362.out) | exact HB.out))) : w.heap.size ≤ gb374))
                                              have n7_ := Aside0.mk ((by rw [hg]; exact Nat.ne_of_lt (blk_lt (g := gb356) (o := .cells #[.int .i64 x357000_2, .int .i64 x357001_2] 26 (0, 0)) (by (with_reducible repeat (first | refine blk_drewN ?_ _ | refine blk_drew ?_ | refine blk_alloc ?_ _)); exact BK356.out)) : gb356 ≠ gb374))
                                              have n8_ := Aside0.mk ((by rw [hg]; exact Nat.ne_of_gt (blk_lt (g := gb356) (o := .cells #[.int .i64 x357000_2, .int .i64 x357001_2] 26 (0, 0)) (by (with_reducible repeat (first | refine blk_drewN ?_ _ | refine blk_drew ?_ | refine blk_alloc ?_ _)); exact BK356.out)) : gb374 ≠ gb356))
                                              have n9_ := Aside0.mk ((by rw [hg]; exact Nat.ne_of_lt (blk_lt (g := gb362) (o := .cells #[.int .i64 ((rd_T57 l1 x25_2).f0), .bool ((rd_T57 l1 x25_2).f1), .int .i64 ((rd_T57 l1 x25_2).f2)] 57 (0, 0)) (by (with_reducible repeat (first | refine blk_drewN ?_ _ | refine blk_drew ?_ | refine blk_alloc ?_ _)); exact BK362.out)) : gb362 ≠ gb374))
                                              have n10_ := Aside0.mk ((by rw [hg]; exact Nat.ne_of_gt (blk_lt (g := gb362) (o := .cells #[.int .i64 ((rd_T57 l1 x25_2).f0), .bool ((rd_T57 l1 x25_2).f1), .int .i64 ((rd_T57 l1 x25_2).f2)] 57 (0, 0)) (by (with_reducible repeat (first | refine blk_drewN ?_ _ | refine blk_drew ?_ | refine blk_alloc ?_ _)); exact BK362.out)) : gb374 ≠ gb362))
                                              clear HO_7
                                              clear BK356
                                              clear BK362
                                              clear HB
                                              have HO_7 := n0_
                                              have BK356 := n1_
                                              have BK362 := n2_
                                              have HB := n3_
                                              have BK374 := n4_
                                              have GW374 := n5_
                                              have GE374 := n6_
                                              have NB356_374 := n7_
                                              have NB374_356 := n8_
                                              have NB362_374 := n9_
                                              have NB374_362 := n10_
                                              clear n0_ n1_ n2_ n3_ n4_ n5_ n6_ n7_ n8_ n9_ n10_
                                              clear hb hbox hg
                                              refine hK.out _ _ ⟨(blk_cell BK362.out 0).trans rfl, (blk_cell BK362.out 1).trans rfl, (blk_cell BK362.out 2).trans rfl, HS3_, HS4_⟩ (fun hHeld => ?_)
                                              clear hK K
                                              refine norm_ (a' := ?_) ?_ ?_
                                              rotate_left
                                              · show Act.put _ (some 12) _ = _
                                                simp only [Act.put, List.setIfInBounds_toArray, List.set_cons_zero, List.set_cons_succ, i64_w, i32_w]
                                                rfl
                                              exact norm_ (by first | (simp only [putAll, Act.put, List.setIfInBounds_toArray, List.set_cons_zero, List.set_cons_succ]; done) | (simp only [putAll, Act.put, List.setIfInBounds_toArray, List.set_cons_zero, List.set_cons_succ]; rfl)) (hJ14 (gb374) _ ⟨hHeld, (by (with_reducible repeat (first | apply Kd.R_alloc | apply Kd.R_drewN | apply Kd.R_drew)); exact HO_7.out), (by (with_reducible repeat (first | refine blk_drewN ?_ _ | refine blk_drew ?_ | refine blk_alloc ?_ _)); exact BK356.out), (by (with_reducible repeat (first | refine blk_drewN ?_ _ | refine blk_drew ?_ | refine blk_alloc ?_ _)); exact BK362.out), (by (with_reducible repeat (first | refine blk_drewN ?_ _ | refine blk_drew ?_ | refine blk_alloc ?_ _)); exact BK374.out), GW374.out, GE374.out, NB356_374.out, NB374_356.out, NB362_374.out, NB374_362.out, (by repeat (first | (with_reducible first | exact HB.out | apply below_alloc | apply pw_below_drewN | apply below_drew1 | refine below_set ?_ GE356.out | refine below_set ?_ GE362.out | refine below_set ?_ GE374.out) | exact HB.out))⟩)
                                          · skip
                                            rintro gb374 w46 ⟨hS_, h0_, h1_, h2_, h3_, h4_, h5_, h6_, h7_, h8_, h9_, h10_⟩
                                            have n0_ : Aside0 (Kd.R k26 26 w46 w.heap.size (fun k_ => k_ ≠ gb356 ∧ k_ ≠ gb374) (.slice (some ad366) x7_2.length co42) x7_2) := ⟨h0_⟩
                                            have n1_ : Aside0 (w46.heap[gb356]? = some (.cells #[.int .i64 x357000_2, .int .i64 x357001_2] 26 (0, 0))) := ⟨h1_⟩
                                            have n2_ : Aside0 (w46.heap[gb362]? = some (.cells #[.int .i64 ((rd_T57 l1 x25_2).f0), .bool ((rd_T57 l1 x25_2).f1), .int .i64 ((rd_T57 l1 x25_2).f2)] 57 (0, 0))) := ⟨h2_⟩
                                            have n3_ : Aside0 (w46.heap[gb374]? = some (.cells #[.int .i64 0, .int .i64 0] 26 (0, 0))) := ⟨h3_⟩
                                            have n4_ : Aside0 (w.heap.size ≤ gb374) := ⟨h4_⟩
                                            have n5_ : Aside0 (w.heap.size ≤ gb374) := ⟨h5_⟩
                                            have n6_ : Aside0 (gb356 ≠ gb374) := ⟨h6_⟩
                                            have n7_ : Aside0 (gb374 ≠ gb356) := ⟨h7_⟩
                                            have n8_ : Aside0 (gb362 ≠ gb374) := ⟨h8_⟩
                                            have n9_ : Aside0 (gb374 ≠ gb362) := ⟨h9_⟩
                                            have n10_ : Aside0 (Below w.heap.size w w46) := ⟨h10_⟩
                                            clear HO_7
                                            clear BK356
                                            clear BK362
                                            clear HB
                                            clear h0_ h1_ h2_ h3_ h4_ h5_ h6_ h7_ h8_ h9_ h10_
                                            have HO_7 := n0_
                                            have BK356 := n1_
                                            have BK362 := n2_
                                            have BK374 := n3_
                                            have GW374 := n4_
                                            have GE374 := n5_
                                            have NB356_374 := n6_
                                            have NB374_356 := n7_
                                            have NB362_374 := n8_
                                            have NB374_362 := n9_
                                            have HB := n10_
                                            clear n0_ n1_ n2_ n3_ n4_ n5_ n6_ n7_ n8_ n9_ n10_
                                            have hHeld : w46.cell? ⟨gb362, 0, none⟩ = some (.int .i64 ((rd_T57 l1 x25_2).f0)) ∧ w46.cell? ⟨gb362, 1, none⟩ = some (.bool ((rd_T57 l1 x25_2).f1)) ∧ w46.cell? ⟨gb362, 2, none⟩ = some (.int .i64 ((rd_T57 l1 x25_2).f2)) ∧ w46.cell? (ad366.add ((((rd_T57 l1 x25_2).f0)).toNat * 2)) = some (.int .i64 ((rd_T26 x7_2 ((rd_T57 l1 x25_2).f0)).f0)) ∧ w46.cell? ⟨(ad366.add ((((rd_T57 l1 x25_2).f0)).toNat * 2)).block, (ad366.add ((((rd_T57 l1 x25_2).f0)).toNat * 2)).off + 1, none⟩ = some (.int .i64 ((rd_T26 x7_2 ((rd_T57 l1 x25_2).f0)).f1)) := hS_
                                            refine norm_ (a' := ?_) ?_ ?_
                                            rotate_left
                                            · simp only [putAll, Act.put, List.setIfInBounds_toArray, List.set_cons_zero, List.set_cons_succ]
                                              rfl
                                            refine two_ (i := 9) (j := 13) (Ni := some 69) (Nj := some 11) #[true, true, true, true, true, true, true, true, true, true, false, false, false, false, true, false, false] #[true, true, true, true, true, true, true, true, true, false, false, false, false, true, true, false, false] rfl rfl rfl rfl (two_of HT_.out (by kernel_rfl)) (by decide) (by decide) (fun K hK => ?_) (fun K hK => ?_)
                                            · skip
                                              refine goes_ Try.func49 (by kernel_rfl) rfl #[.agg #[.int .i64 ((rd_T26 x7_2 ((rd_T57 l1 x25_2).f0)).f0), .int .i64 ((rd_T26 x7_2 ((rd_T57 l1 x25_2).f0)).f1)], .bool ((rd_T57 l1 x25_2).f1), .int .i64 ((rd_T57 l1 x25_2).f2)] (by rfl) rfl rfl (by (try simp only [List.map_toArray, List.map_cons, List.map_nil]); first | done | rfl | (simp only [List.length_drop, List.length_take]; rfl)) ?_
                                              with_reducible refine (spec_brParts.calls ((rd_T26 x7_2 ((rd_T57 l1 x25_2).f0)).f0) ((rd_T26 x7_2 ((rd_T57 l1 x25_2).f0)).f1) ((rd_T57 l1 x25_2).f1) ((rd_T57 l1 x25_2).f2) t369 t370 t371 t372 _ A38.out).mono ?_
                                              rintro e w47 ⟨rfl, hb⟩
                                              have HS3_ := (hb.cell (World.block_lt_of_cell? _ _ (hHeld.2.2.2.1))).trans (hHeld.2.2.2.1)
                                              have HS4_ := (hb.cell (World.block_lt_of_cell? _ _ (hHeld.2.2.2.2))).trans (hHeld.2.2.2.2)
                                              refine ⟨_, rfl, ?_⟩
                                              have n0_ := Aside0.mk (Kd.R_below (by (with_reducible repeat (first | apply Kd.R_alloc | apply Kd.R_drewN | apply Kd.R_drew)); exact HO_7.out) hb)
                                              have n1_ := Aside0.mk (blk_below (g := gb356) (o := .cells #[.int .i64 x357000_2, .int .i64 x357001_2] 26 (0, 0)) (by (with_reducible repeat (first | refine blk_drewN ?_ _ | refine blk_drew ?_ | refine blk_alloc ?_ _)); exact BK356.out) hb)
                                              have n2_ := Aside0.mk (blk_below (g := gb362) (o := .cells #[.int .i64 ((rd_T57 l1 x25_2).f0), .bool ((rd_T57 l1 x25_2).f1), .int .i64 ((rd_T57 l1 x25_2).f2)] 57 (0, 0)) (by (with_reducible repeat (first | refine blk_drewN ?_ _ | refine blk_drew ?_ | refine blk_alloc ?_ _)); exact BK362.out) hb)
                                              have n3_ := Aside0.mk (blk_below (g := gb374) (o := .cells #[.int .i64 0, .int .i64 0] 26 (0, 0)) (by (with_reducible repeat (first | refine blk_drewN ?_ _ | refine blk_drew ?_ | refine blk_alloc ?_ _)); exact BK374.out) hb)
                                              have n4_ := Aside0.mk (below_step (by repeat (first | (with_reducible first | exact HB.out | apply below_alloc | apply pw_below_drewN | apply below_drew1 | refine below_set ?_ GE356.out | refine below_set ?_ GE362.out | refine below_set ?_ GE374.out) | exact HB.out)) hb)
                                              clear HO_7
                                              clear BK356
                                              clear BK362
                                              clear BK374
                                              clear HB
                                              have HO_7 := n0_
                                              have BK356 := n1_
                                              have BK362 := n2_
                                              have BK374 := n3_
                                              have HB := n4_
                                              clear n0_ n1_ n2_ n3_ n4_
                                              (try clear hb)
                                              (try clear hb2)
                                              (try clear hk)
                                              (try clear hi)
                                              refine hK.out _ _ ⟨(blk_cell BK362.out 0).trans rfl, (blk_cell BK362.out 1).trans rfl, (blk_cell BK362.out 2).trans rfl, HS3_, HS4_⟩ (fun hHeld => ?_)
                                              clear hK K
                                              refine norm_ (a' := ?_) ?_ ?_
                                              rotate_left
                                              · show Act.put _ (some 69) _ = _
                                                simp only [Act.put, List.setIfInBounds_toArray, List.set_cons_zero, List.set_cons_succ, i64_w, i32_w]
                                                rfl
                                              refine pure_ (i := 10) (N := some 59) (v := ?_) (a' := ?_) #[true, true, true, true, true, true, true, true, true, true, true, false, false, false, true, false, false] rfl rfl (any_of HT_.out (by kernel_rfl)) (fun _ _ _ h => h) (Or.inl ⟨by rfl, ?_⟩) ?_ ?_
                                              rotate_left
                                              · intro w'
                                                go_simp
                                                with_reducible rfl
                                              rotate_left
                                              · simp only [Act.put, List.setIfInBounds_toArray, List.set_cons_zero, List.set_cons_succ, i64_w, i32_w]
                                                rfl
                                              refine pure_ (i := 11) (N := some 70) (v := ?_) (a' := ?_) #[true, true, true, true, true, true, true, true, true, true, true, true, false, false, true, false, false] rfl rfl (any_of HT_.out (by kernel_rfl)) (fun _ _ _ h => h) (Or.inl ⟨by rfl, ?_⟩) ?_ ?_
                                              rotate_left
                                              · intro w'
                                                go_simp
                                                with_reducible rfl
                                              rotate_left
                                              · simp only [Act.put, List.setIfInBounds_toArray, List.set_cons_zero, List.set_cons_succ, i64_w, i32_w]
                                                rfl
                                              refine pure_ (i := 12) (N := some 71) (v := ?_) (a' := ?_) #[true, true, true, true, true, true, true, true, true, true, true, true, true, false, true, false, false] rfl rfl (any_of HT_.out (by kernel_rfl)) (fun _ _ _ h => h) (Or.inl ⟨by rfl, ?_⟩) ?_ ?_
                                              rotate_left
                                              · intro w'
                                                go_simp
                                                with_reducible rfl
                                              rotate_left
                                              · simp only [Act.put, List.setIfInBounds_toArray, List.set_cons_zero, List.set_cons_succ, i64_w, i32_w]
                                                rfl
                                              exact norm_ (by first | (simp only [putAll, Act.put, List.setIfInBounds_toArray, List.set_cons_zero, List.set_cons_succ]; done) | (simp only [putAll, Act.put, List.setIfInBounds_toArray, List.set_cons_zero, List.set_cons_succ]; rfl)) (hJ9_14 (gb374) _ ⟨hHeld, (by (with_reducible repeat (first | apply Kd.R_alloc | apply Kd.R_drewN | apply Kd.R_drew)); exact HO_7.out), (by (with_reducible repeat (first | refine blk_drewN ?_ _ | refine blk_drew ?_ | refine blk_alloc ?_ _)); exact BK356.out), (by (with_reducible repeat (first | refine blk_drewN ?_ _ | refine blk_drew ?_ | refine blk_alloc ?_ _)); exact BK362.out), (by (with_reducible repeat (first | refine blk_drewN ?_ _ | refine blk_drew ?_ | refine blk_alloc ?_ _)); exact BK374.out), GW374.out, GE374.out, NB356_374.out, NB374_356.out, NB362_374.out, NB374_362.out, (by repeat (first | (with_reducible first | exact HB.out | apply below_alloc | apply pw_below_drewN | apply below_drew1 | refine below_set ?_ GE356.out | refine below_set ?_ GE362.out | refine below_set ?_ GE374.out) | exact HB.out))⟩)
                                            · skip
                                              refine box_step ?hg (N := 11) ?hd (cs := #[.int .i64 0, .int .i64 0]) (t := 26) ?hr ?_; (case hd => rfl); (case hg => rfl); (case hr => first | (go_simp; done) | (go_simp; rfl))
                                              intro gb373 hg w47 hbox hb
                                              have HS3_ := (hb.cell (World.block_lt_of_cell? _ _ (hHeld.2.2.2.1))).trans (hHeld.2.2.2.1)
                                              have HS4_ := (hb.cell (World.block_lt_of_cell? _ _ (hHeld.2.2.2.2))).trans (hHeld.2.2.2.2)
                                              have n0_ := Aside0.mk (Kd.R_below (Kd.R_elderB (by (with_reducible repeat (first | apply Kd.R_alloc | apply Kd.R_drewN | apply Kd.R_drew)); exact HO_7.out) gb373 (Nat.le_of_eq hg.symm)) hb)
                                              have n1_ := Aside0.mk (blk_below (g := gb356) (o := .cells #[.int .i64 x357000_2, .int .i64 x357001_2] 26 (0, 0)) (by (with_reducible repeat (first | refine blk_drewN ?_ _ | refine blk_drew ?_ | refine blk_alloc ?_ _)); exact BK356.out) hb)
                                              have n2_ := Aside0.mk (blk_below (g := gb362) (o := .cells #[.int .i64 ((rd_T57 l1 x25_2).f0), .bool ((rd_T57 l1 x25_2).f1), .int .i64 ((rd_T57 l1 x25_2).f2)] 57 (0, 0)) (by (with_reducible repeat (first | refine blk_drewN ?_ _ | refine blk_drew ?_ | refine blk_alloc ?_ _)); exact BK362.out) hb)
                                              have n3_ := Aside0.mk (blk_below (g := gb374) (o := .cells #[.int .i64 0, .int .i64 0] 26 (0, 0)) (by (with_reducible repeat (first | refine blk_drewN ?_ _ | refine blk_drew ?_ | refine blk_alloc ?_ _)); exact BK374.out) hb)
                                              have n4_ := Aside0.mk (below_step (by repeat (first | (with_reducible first | exact HB.out | apply below_alloc | apply pw_below_drewN | apply below_drew1 | refine below_set ?_ GE356.out | refine below_set ?_ GE362.out | refine below_set ?_ GE374.out) | exact HB.out)) hb)
                                              have n5_ := Aside0.mk (hbox)
                                              have n6_ := Aside0.mk ((by rw [hg]; exact (below_size (by repeat (first | (with_reducible first | exact HB.out | apply below_alloc | apply pw_below_drewN | apply below_drew1 | refine below_set ?_ GE356.out | refine below_set ?_ GE362.out | refine below_set ?_ GE374.out) | exact HB.out))) : w.heap.size ≤ gb373))
                                              have n7_ := Aside0.mk ((by rw [hg]; exact (below_size (by repeat (first | (with_reducible first | exact HB.out | apply below_alloc | apply pw_below_drewN | apply below_drew1 | refine below_set ?_ GE356.out | refine below_set ?_ GE362.out | refine below_set ?_ GE374.out) | exact HB.out))) : w.heap.size ≤ gb373))
                                              have n8_ := Aside0.mk ((by rw [hg]; exact Nat.ne_of_lt (blk_lt (g := gb356) (o := .cells #[.int .i64 x357000_2, .int .i64 x357001_2] 26 (0, 0)) (by (with_reducible repeat (first | refine blk_drewN ?_ _ | refine blk_drew ?_ | refine blk_alloc ?_ _)); exact BK356.out)) : gb356 ≠ gb373))
                                              have n9_ := Aside0.mk ((by rw [hg]; exact Nat.ne_of_gt (blk_lt (g := gb356) (o := .cells #[.int .i64 x357000_2, .int .i64 x357001_2] 26 (0, 0)) (by (with_reducible repeat (first | refine blk_drewN ?_ _ | refine blk_drew ?_ | refine blk_alloc ?_ _)); exact BK356.out)) : gb373 ≠ gb356))
                                              have n10_ := Aside0.mk ((by rw [hg]; exact Nat.ne_of_lt (blk_lt (g := gb362) (o := .cells #[.int .i64 ((rd_T57 l1 x25_2).f0), .bool ((rd_T57 l1 x25_2).f1), .int .i64 ((rd_T57 l1 x25_2).f2)] 57 (0, 0)) (by (with_reducible repeat (first | refine blk_drewN ?_ _ | refine blk_drew ?_ | refine blk_alloc ?_ _)); exact BK362.out)) : gb362 ≠ gb373))
                                              have n11_ := Aside0.mk ((by rw [hg]; exact Nat.ne_of_gt (blk_lt (g := gb362) (o := .cells #[.int .i64 ((rd_T57 l1 x25_2).f0), .bool ((rd_T57 l1 x25_2).f1), .int .i64 ((rd_T57 l1 x25_2).f2)] 57 (0, 0)) (by (with_reducible repeat (first | refine blk_drewN ?_ _ | refine blk_drew ?_ | refine blk_alloc ?_ _)); exact BK362.out)) : gb373 ≠ gb362))
                                              have n12_ := Aside0.mk ((by rw [hg]; exact Nat.ne_of_lt (blk_lt (g := gb374) (o := .cells #[.int .i64 0, .int .i64 0] 26 (0, 0)) (by (with_reducible repeat (first | refine blk_drewN ?_ _ | refine blk_drew ?_ | refine blk_alloc ?_ _)); exact BK374.out)) : gb374 ≠ gb373))
                                              have n13_ := Aside0.mk ((by rw [hg]; exact Nat.ne_of_gt (blk_lt (g := gb374) (o := .cells #[.int .i64 0, .int .i64 0] 26 (0, 0)) (by (with_reducible repeat (first | refine blk_drewN ?_ _ | refine blk_drew ?_ | refine blk_alloc ?_ _)); exact BK374.out)) : gb373 ≠ gb374))
                                              clear HO_7
                                              clear BK356
                                              clear BK362
                                              clear BK374
                                              clear HB
                                              have HO_7 := n0_
                                              have BK356 := n1_
                                              have BK362 := n2_
                                              have BK374 := n3_
                                              have HB := n4_
                                              have BK373 := n5_
                                              have GW373 := n6_
                                              have GE373 := n7_
                                              have NB356_373 := n8_
                                              have NB373_356 := n9_
                                              have NB362_373 := n10_
                                              have NB373_362 := n11_
                                              have NB374_373 := n12_
                                              have NB373_374 := n13_
                                              clear n0_ n1_ n2_ n3_ n4_ n5_ n6_ n7_ n8_ n9_ n10_ n11_ n12_ n13_
                                              clear hb hbox hg
                                              refine hK.out _ _ ⟨(blk_cell BK362.out 0).trans rfl, (blk_cell BK362.out 1).trans rfl, (blk_cell BK362.out 2).trans rfl, HS3_, HS4_⟩ (fun hHeld => ?_)
                                              clear hK K
                                              refine norm_ (a' := ?_) ?_ ?_
                                              rotate_left
                                              · show Act.put _ (some 11) _ = _
                                                simp only [Act.put, List.setIfInBounds_toArray, List.set_cons_zero, List.set_cons_succ, i64_w, i32_w]
                                                rfl
                                              exact norm_ (by first | (simp only [putAll, Act.put, List.setIfInBounds_toArray, List.set_cons_zero, List.set_cons_succ]; done) | (simp only [putAll, Act.put, List.setIfInBounds_toArray, List.set_cons_zero, List.set_cons_succ]; rfl)) (hJ13_14 (gb373, gb374) _ ⟨hHeld, (by (with_reducible repeat (first | apply Kd.R_alloc | apply Kd.R_drewN | apply Kd.R_drew)); exact Kd.R_mono HO_7.out (fun _ hk => ⟨hk.1.1, ⟨hk.2, hk.1.2⟩⟩)), (by (with_reducible repeat (first | refine blk_drewN ?_ _ | refine blk_drew ?_ | refine blk_alloc ?_ _)); exact BK356.out), (by (with_reducible repeat (first | refine blk_drewN ?_ _ | refine blk_drew ?_ | refine blk_alloc ?_ _)); exact BK362.out), (by (with_reducible repeat (first | refine blk_drewN ?_ _ | refine blk_drew ?_ | refine blk_alloc ?_ _)); exact BK373.out), (by (with_reducible repeat (first | refine blk_drewN ?_ _ | refine blk_drew ?_ | refine blk_alloc ?_ _)); exact BK374.out), GW373.out, GE373.out, NB356_373.out, NB373_356.out, NB362_373.out, NB373_362.out, NB374_373.out, NB373_374.out, GW374.out, GE374.out, NB356_374.out, NB374_356.out, NB362_374.out, NB374_362.out, (by repeat (first | (with_reducible first | exact HB.out | apply below_alloc | apply pw_below_drewN | apply below_drew1 | refine below_set ?_ GE356.out | refine below_set ?_ GE362.out | refine below_set ?_ GE374.out | refine below_set ?_ GE373.out) | exact HB.out))⟩)
                                        · skip
                                          rintro gb373 w46 ⟨hS_, h0_, h1_, h2_, h3_, h4_, h5_, h6_, h7_, h8_, h9_, h10_⟩
                                          have n0_ : Aside0 (Kd.R k26 26 w46 w.heap.size (fun k_ => k_ ≠ gb356 ∧ k_ ≠ gb373) (.slice (some ad366) x7_2.length co42) x7_2) := ⟨h0_⟩
                                          have n1_ : Aside0 (w46.heap[gb356]? = some (.cells #[.int .i64 x357000_2, .int .i64 x357001_2] 26 (0, 0))) := ⟨h1_⟩
                                          have n2_ : Aside0 (w46.heap[gb362]? = some (.cells #[.int .i64 ((rd_T57 l1 x25_2).f0), .bool ((rd_T57 l1 x25_2).f1), .int .i64 ((rd_T57 l1 x25_2).f2)] 57 (0, 0))) := ⟨h2_⟩
                                          have n3_ : Aside0 (w46.heap[gb373]? = some (.cells #[.int .i64 0, .int .i64 0] 26 (0, 0))) := ⟨h3_⟩
                                          have n4_ : Aside0 (w.heap.size ≤ gb373) := ⟨h4_⟩
                                          have n5_ : Aside0 (w.heap.size ≤ gb373) := ⟨h5_⟩
                                          have n6_ : Aside0 (gb356 ≠ gb373) := ⟨h6_⟩
                                          have n7_ : Aside0 (gb373 ≠ gb356) := ⟨h7_⟩
                                          have n8_ : Aside0 (gb362 ≠ gb373) := ⟨h8_⟩
                                          have n9_ : Aside0 (gb373 ≠ gb362) := ⟨h9_⟩
                                          have n10_ : Aside0 (Below w.heap.size w w46) := ⟨h10_⟩
                                          clear HO_7
                                          clear BK356
                                          clear BK362
                                          clear HB
                                          clear h0_ h1_ h2_ h3_ h4_ h5_ h6_ h7_ h8_ h9_ h10_
                                          have HO_7 := n0_
                                          have BK356 := n1_
                                          have BK362 := n2_
                                          have BK373 := n3_
                                          have GW373 := n4_
                                          have GE373 := n5_
                                          have NB356_373 := n6_
                                          have NB373_356 := n7_
                                          have NB362_373 := n8_
                                          have NB373_362 := n9_
                                          have HB := n10_
                                          clear n0_ n1_ n2_ n3_ n4_ n5_ n6_ n7_ n8_ n9_ n10_
                                          have hHeld : w46.cell? ⟨gb362, 0, none⟩ = some (.int .i64 ((rd_T57 l1 x25_2).f0)) ∧ w46.cell? ⟨gb362, 1, none⟩ = some (.bool ((rd_T57 l1 x25_2).f1)) ∧ w46.cell? ⟨gb362, 2, none⟩ = some (.int .i64 ((rd_T57 l1 x25_2).f2)) ∧ w46.cell? (ad366.add ((((rd_T57 l1 x25_2).f0)).toNat * 2)) = some (.int .i64 ((rd_T26 x7_2 ((rd_T57 l1 x25_2).f0)).f0)) ∧ w46.cell? ⟨(ad366.add ((((rd_T57 l1 x25_2).f0)).toNat * 2)).block, (ad366.add ((((rd_T57 l1 x25_2).f0)).toNat * 2)).off + 1, none⟩ = some (.int .i64 ((rd_T26 x7_2 ((rd_T57 l1 x25_2).f0)).f1)) := hS_
                                          refine norm_ (a' := ?_) ?_ ?_
                                          rotate_left
                                          · simp only [putAll, Act.put, List.setIfInBounds_toArray, List.set_cons_zero, List.set_cons_succ]
                                            rfl
                                          refine two_ (i := 9) (j := 14) (Ni := some 69) (Nj := some 12) #[true, true, true, true, true, true, true, true, true, true, false, false, false, true, false, false, false] #[true, true, true, true, true, true, true, true, true, false, false, false, false, true, true, false, false] rfl rfl rfl rfl (two_of HT_.out (by kernel_rfl)) (by decide) (by decide) (fun K hK => ?_) (fun K hK => ?_)
                                          · skip
                                            refine goes_ Try.func49 (by kernel_rfl) rfl #[.agg #[.int .i64 ((rd_T26 x7_2 ((rd_T57 l1 x25_2).f0)).f0), .int .i64 ((rd_T26 x7_2 ((rd_T57 l1 x25_2).f0)).f1)], .bool ((rd_T57 l1 x25_2).f1), .int .i64 ((rd_T57 l1 x25_2).f2)] (by rfl) rfl rfl (by (try simp only [List.map_toArray, List.map_cons, List.map_nil]); first | done | rfl | (simp only [List.length_drop, List.length_take]; rfl)) ?_
                                            with_reducible refine (spec_brParts.calls ((rd_T26 x7_2 ((rd_T57 l1 x25_2).f0)).f0) ((rd_T26 x7_2 ((rd_T57 l1 x25_2).f0)).f1) ((rd_T57 l1 x25_2).f1) ((rd_T57 l1 x25_2).f2) t369 t370 t371 t372 _ A38.out).mono ?_
                                            rintro e w47 ⟨rfl, hb⟩
                                            have HS3_ := (hb.cell (World.block_lt_of_cell? _ _ (hHeld.2.2.2.1))).trans (hHeld.2.2.2.1)
                                            have HS4_ := (hb.cell (World.block_lt_of_cell? _ _ (hHeld.2.2.2.2))).trans (hHeld.2.2.2.2)
                                            refine ⟨_, rfl, ?_⟩
                                            have n0_ := Aside0.mk (Kd.R_below (by (with_reducible repeat (first | apply Kd.R_alloc | apply Kd.R_drewN | apply Kd.R_drew)); exact HO_7.out) hb)
                                            have n1_ := Aside0.mk (blk_below (g := gb356) (o := .cells #[.int .i64 x357000_2, .int .i64 x357001_2] 26 (0, 0)) (by (with_reducible repeat (first | refine blk_drewN ?_ _ | refine blk_drew ?_ | refine blk_alloc ?_ _)); exact BK356.out) hb)
                                            have n2_ := Aside0.mk (blk_below (g := gb362) (o := .cells #[.int .i64 ((rd_T57 l1 x25_2).f0), .bool ((rd_T57 l1 x25_2).f1), .int .i64 ((rd_T57 l1 x25_2).f2)] 57 (0, 0)) (by (with_reducible repeat (first | refine blk_drewN ?_ _ | refine blk_drew ?_ | refine blk_alloc ?_ _)); exact BK362.out) hb)
                                            have n3_ := Aside0.mk (blk_below (g := gb373) (o := .cells #[.int .i64 0, .int .i64 0] 26 (0, 0)) (by (with_reducible repeat (first | refine blk_drewN ?_ _ | refine blk_drew ?_ | refine blk_alloc ?_ _)); exact BK373.out) hb)
                                            have n4_ := Aside0.mk (below_step (by repeat (first | (with_reducible first | exact HB.out | apply below_alloc | apply pw_below_drewN | apply below_drew1 | refine below_set ?_ GE356.out | refine below_set ?_ GE362.out | refine below_set ?_ GE373.out) | exact HB.out)) hb)
                                            clear HO_7
                                            clear BK356
                                            clear BK362
                                            clear BK373
                                            clear HB
                                            have HO_7 := n0_
                                            have BK356 := n1_
                                            have BK362 := n2_
                                            have BK373 := n3_
                                            have HB := n4_
                                            clear n0_ n1_ n2_ n3_ n4_
                                            (try clear hb)
                                            (try clear hb2)
                                            (try clear hk)
                                            (try clear hi)
                                            refine hK.out _ _ ⟨(blk_cell BK362.out 0).trans rfl, (blk_cell BK362.out 1).trans rfl, (blk_cell BK362.out 2).trans rfl, HS3_, HS4_⟩ (fun hHeld => ?_)
                                            clear hK K
                                            refine norm_ (a' := ?_) ?_ ?_
                                            rotate_left
                                            · show Act.put _ (some 69) _ = _
                                              simp only [Act.put, List.setIfInBounds_toArray, List.set_cons_zero, List.set_cons_succ, i64_w, i32_w]
                                              rfl
                                            refine pure_ (i := 10) (N := some 59) (v := ?_) (a' := ?_) #[true, true, true, true, true, true, true, true, true, true, true, false, false, true, false, false, false] rfl rfl (any_of HT_.out (by kernel_rfl)) (fun _ _ _ h => h) (Or.inl ⟨by rfl, ?_⟩) ?_ ?_
                                            rotate_left
                                            · intro w'
                                              go_simp
                                              with_reducible rfl
                                            rotate_left
                                            · simp only [Act.put, List.setIfInBounds_toArray, List.set_cons_zero, List.set_cons_succ, i64_w, i32_w]
                                              rfl
                                            refine pure_ (i := 11) (N := some 70) (v := ?_) (a' := ?_) #[true, true, true, true, true, true, true, true, true, true, true, true, false, true, false, false, false] rfl rfl (any_of HT_.out (by kernel_rfl)) (fun _ _ _ h => h) (Or.inl ⟨by rfl, ?_⟩) ?_ ?_
                                            rotate_left
                                            · intro w'
                                              go_simp
                                              with_reducible rfl
                                            rotate_left
                                            · simp only [Act.put, List.setIfInBounds_toArray, List.set_cons_zero, List.set_cons_succ, i64_w, i32_w]
                                              rfl
                                            refine pure_ (i := 12) (N := some 71) (v := ?_) (a' := ?_) #[true, true, true, true, true, true, true, true, true, true, true, true, true, true, false, false, false] rfl rfl (any_of HT_.out (by kernel_rfl)) (fun _ _ _ h => h) (Or.inl ⟨by rfl, ?_⟩) ?_ ?_
                                            rotate_left
                                            · intro w'
                                              go_simp
                                              with_reducible rfl
                                            rotate_left
                                            · simp only [Act.put, List.setIfInBounds_toArray, List.set_cons_zero, List.set_cons_succ, i64_w, i32_w]
                                              rfl
                                            exact norm_ (by first | (simp only [putAll, Act.put, List.setIfInBounds_toArray, List.set_cons_zero, List.set_cons_succ]; done) | (simp only [putAll, Act.put, List.setIfInBounds_toArray, List.set_cons_zero, List.set_cons_succ]; rfl)) (hJ9_13 (gb373) _ ⟨hHeld, (by (with_reducible repeat (first | apply Kd.R_alloc | apply Kd.R_drewN | apply Kd.R_drew)); exact HO_7.out), (by (with_reducible repeat (first | refine blk_drewN ?_ _ | refine blk_drew ?_ | refine blk_alloc ?_ _)); exact BK356.out), (by (with_reducible repeat (first | refine blk_drewN ?_ _ | refine blk_drew ?_ | refine blk_alloc ?_ _)); exact BK362.out), (by (with_reducible repeat (first | refine blk_drewN ?_ _ | refine blk_drew ?_ | refine blk_alloc ?_ _)); exact BK373.out), GW373.out, GE373.out, NB356_373.out, NB373_356.out, NB362_373.out, NB373_362.out, (by repeat (first | (with_reducible first | exact HB.out | apply below_alloc | apply pw_below_drewN | apply below_drew1 | refine below_set ?_ GE356.out | refine below_set ?_ GE362.out | refine below_set ?_ GE373.out) | exact HB.out))⟩)
                                          · skip
                                            refine box_step ?hg (N := 12) ?hd (cs := #[.int .i64 0, .int .i64 0]) (t := 26) ?hr ?_; (case hd => rfl); (case hg => rfl); (case hr => first | (go_simp; done) | (go_simp; rfl))
                                            intro gb374 hg w47 hbox hb
                                            have HS3_ := (hb.cell (World.block_lt_of_cell? _ _ (hHeld.2.2.2.1))).trans (hHeld.2.2.2.1)
                                            have HS4_ := (hb.cell (World.block_lt_of_cell? _ _ (hHeld.2.2.2.2))).trans (hHeld.2.2.2.2)
                                            have n0_ := Aside0.mk (Kd.R_below (Kd.R_elderB (by (with_reducible repeat (first | apply Kd.R_alloc | apply Kd.R_drewN | apply Kd.R_drew)); exact HO_7.out) gb374 (Nat.le_of_eq hg.symm)) hb)
                                            have n1_ := Aside0.mk (blk_below (g := gb356) (o := .cells #[.int .i64 x357000_2, .int .i64 x357001_2] 26 (0, 0)) (by (with_reducible repeat (first | refine blk_drewN ?_ _ | refine blk_drew ?_ | refine blk_alloc ?_ _)); exact BK356.out) hb)
                                            have n2_ := Aside0.mk (blk_below (g := gb362) (o := .cells #[.int .i64 ((rd_T57 l1 x25_2).f0), .bool ((rd_T57 l1 x25_2).f1), .int .i64 ((rd_T57 l1 x25_2).f2)] 57 (0, 0)) (by (with_reducible repeat (first | refine blk_drewN ?_ _ | refine blk_drew ?_ | refine blk_alloc ?_ _)); exact BK362.out) hb)
                                            have n3_ := Aside0.mk (blk_below (g := gb373) (o := .cells #[.int .i64 0, .int .i64 0] 26 (0, 0)) (by (with_reducible repeat (first | refine blk_drewN ?_ _ | refine blk_drew ?_ | refine blk_alloc ?_ _)); exact BK373.out) hb)
                                            have n4_ := Aside0.mk (below_step (by repeat (first | (with_reducible first | exact HB.out | apply below_alloc | apply pw_below_drewN | apply below_drew1 | refine below_set ?_ GE356.out | refine below_set ?_ GE362.out | refine below_set ?_ GE373.out) | exact HB.out)) hb)
                                            have n5_ := Aside0.mk (hbox)
                                            have n6_ := Aside0.mk ((by rw [hg]; exact (below_size (by repeat (first | (with_reducible first | exact HB.out | apply below_alloc | apply pw_below_drewN | apply below_drew1 | refine below_set ?_ GE356.out | refine below_set ?_ GE362.out | refine below_set ?_ GE373.out) | exact HB.out))) : w.heap.size ≤ gb374))
                                            have n7_ := Aside0.mk ((by rw [hg]; exact (below_size (by repeat (first | (with_reducible first | exact HB.out | apply below_alloc | apply pw_below_drewN | apply below_drew1 | refine below_set ?_ GE356.out | refine below_set ?_ GE362.out | refine below_set ?_ GE373.out) | exact HB.out))) : w.heap.size ≤ gb374))
                                            have n8_ := Aside0.mk ((by rw [hg]; exact Nat.ne_of_lt (blk_lt (g := gb356) (o := .cells #[.int .i64 x357000_2, .int .i64 x357001_2] 26 (0, 0)) (by (with_reducible repeat (first | refine blk_drewN ?_ _ | refine blk_drew ?_ | refine blk_alloc ?_ _)); exact BK356.out)) : gb356 ≠ gb374))
                                            have n9_ := Aside0.mk ((by rw [hg]; exact Nat.ne_of_gt (blk_lt (g := gb356) (o := .cells #[.int .i64 x357000_2, .int .i64 x357001_2] 26 (0, 0)) (by (with_reducible repeat (first | refine blk_drewN ?_ _ | refine blk_drew ?_ | refine blk_alloc ?_ _)); exact BK356.out)) : gb374 ≠ gb356))
                                            have n10_ := Aside0.mk ((by rw [hg]; exact Nat.ne_of_lt (blk_lt (g := gb362) (o := .cells #[.int .i64 ((rd_T57 l1 x25_2).f0), .bool ((rd_T57 l1 x25_2).f1), .int .i64 ((rd_T57 l1 x25_2).f2)] 57 (0, 0)) (by (with_reducible repeat (first | refine blk_drewN ?_ _ | refine blk_drew ?_ | refine blk_alloc ?_ _)); exact BK362.out)) : gb362 ≠ gb374))
                                            have n11_ := Aside0.mk ((by rw [hg]; exact Nat.ne_of_gt (blk_lt (g := gb362) (o := .cells #[.int .i64 ((rd_T57 l1 x25_2).f0), .bool ((rd_T57 l1 x25_2).f1), .int .i64 ((rd_T57 l1 x25_2).f2)] 57 (0, 0)) (by (with_reducible repeat (first | refine blk_drewN ?_ _ | refine blk_drew ?_ | refine blk_alloc ?_ _)); exact BK362.out)) : gb374 ≠ gb362))
                                            have n12_ := Aside0.mk ((by rw [hg]; exact Nat.ne_of_lt (blk_lt (g := gb373) (o := .cells #[.int .i64 0, .int .i64 0] 26 (0, 0)) (by (with_reducible repeat (first | refine blk_drewN ?_ _ | refine blk_drew ?_ | refine blk_alloc ?_ _)); exact BK373.out)) : gb373 ≠ gb374))
                                            have n13_ := Aside0.mk ((by rw [hg]; exact Nat.ne_of_gt (blk_lt (g := gb373) (o := .cells #[.int .i64 0, .int .i64 0] 26 (0, 0)) (by (with_reducible repeat (first | refine blk_drewN ?_ _ | refine blk_drew ?_ | refine blk_alloc ?_ _)); exact BK373.out)) : gb374 ≠ gb373))
                                            clear HO_7
                                            clear BK356
                                            clear BK362
                                            clear BK373
                                            clear HB
                                            have HO_7 := n0_
                                            have BK356 := n1_
                                            have BK362 := n2_
                                            have BK373 := n3_
                                            have HB := n4_
                                            have BK374 := n5_
                                            have GW374 := n6_
                                            have GE374 := n7_
                                            have NB356_374 := n8_
                                            have NB374_356 := n9_
                                            have NB362_374 := n10_
                                            have NB374_362 := n11_
                                            have NB373_374 := n12_
                                            have NB374_373 := n13_
                                            clear n0_ n1_ n2_ n3_ n4_ n5_ n6_ n7_ n8_ n9_ n10_ n11_ n12_ n13_
                                            clear hb hbox hg
                                            refine hK.out _ _ ⟨(blk_cell BK362.out 0).trans rfl, (blk_cell BK362.out 1).trans rfl, (blk_cell BK362.out 2).trans rfl, HS3_, HS4_⟩ (fun hHeld => ?_)
                                            clear hK K
                                            refine norm_ (a' := ?_) ?_ ?_
                                            rotate_left
                                            · show Act.put _ (some 12) _ = _
                                              simp only [Act.put, List.setIfInBounds_toArray, List.set_cons_zero, List.set_cons_succ, i64_w, i32_w]
                                              rfl
                                            exact norm_ (by first | (simp only [putAll, Act.put, List.setIfInBounds_toArray, List.set_cons_zero, List.set_cons_succ]; done) | (simp only [putAll, Act.put, List.setIfInBounds_toArray, List.set_cons_zero, List.set_cons_succ]; rfl)) (hJ13_14 (gb373, gb374) _ ⟨hHeld, (by (with_reducible repeat (first | apply Kd.R_alloc | apply Kd.R_drewN | apply Kd.R_drew)); exact Kd.R_mono HO_7.out (fun _ hk => ⟨hk.1.1, ⟨hk.1.2, hk.2⟩⟩)), (by (with_reducible repeat (first | refine blk_drewN ?_ _ | refine blk_drew ?_ | refine blk_alloc ?_ _)); exact BK356.out), (by (with_reducible repeat (first | refine blk_drewN ?_ _ | refine blk_drew ?_ | refine blk_alloc ?_ _)); exact BK362.out), (by (with_reducible repeat (first | refine blk_drewN ?_ _ | refine blk_drew ?_ | refine blk_alloc ?_ _)); exact BK373.out), (by (with_reducible repeat (first | refine blk_drewN ?_ _ | refine blk_drew ?_ | refine blk_alloc ?_ _)); exact BK374.out), GW373.out, GE373.out, NB356_373.out, NB373_356.out, NB362_373.out, NB373_362.out, NB374_373.out, NB373_374.out, GW374.out, GE374.out, NB356_374.out, NB374_356.out, NB362_374.out, NB374_362.out, (by repeat (first | (with_reducible first | exact HB.out | apply below_alloc | apply pw_below_drewN | apply below_drew1 | refine below_set ?_ GE356.out | refine below_set ?_ GE362.out | refine below_set ?_ GE373.out | refine below_set ?_ GE374.out) | exact HB.out))⟩)
                                      · skip
                                        rintro _ w46 ⟨hS_, h0_, h1_, h2_, h3_⟩
                                        have n0_ : Aside0 (Kd.R k26 26 w46 w.heap.size (fun k_ => k_ ≠ gb356) (.slice (some ad366) x7_2.length co42) x7_2) := ⟨h0_⟩
                                        have n1_ : Aside0 (w46.heap[gb356]? = some (.cells #[.int .i64 x357000_2, .int .i64 x357001_2] 26 (0, 0))) := ⟨h1_⟩
                                        have n2_ : Aside0 (w46.heap[gb362]? = some (.cells #[.int .i64 ((rd_T57 l1 x25_2).f0), .bool ((rd_T57 l1 x25_2).f1), .int .i64 ((rd_T57 l1 x25_2).f2)] 57 (0, 0))) := ⟨h2_⟩
                                        have n3_ : Aside0 (Below w.heap.size w w46) := ⟨h3_⟩
                                        clear HO_7
                                        clear BK356
                                        clear BK362
                                        clear HB
                                        clear h0_ h1_ h2_ h3_
                                        have HO_7 := n0_
                                        have BK356 := n1_
                                        have BK362 := n2_
                                        have HB := n3_
                                        clear n0_ n1_ n2_ n3_
                                        have hHeld : w46.cell? ⟨gb362, 0, none⟩ = some (.int .i64 ((rd_T57 l1 x25_2).f0)) ∧ w46.cell? ⟨gb362, 1, none⟩ = some (.bool ((rd_T57 l1 x25_2).f1)) ∧ w46.cell? ⟨gb362, 2, none⟩ = some (.int .i64 ((rd_T57 l1 x25_2).f2)) ∧ w46.cell? (ad366.add ((((rd_T57 l1 x25_2).f0)).toNat * 2)) = some (.int .i64 ((rd_T26 x7_2 ((rd_T57 l1 x25_2).f0)).f0)) ∧ w46.cell? ⟨(ad366.add ((((rd_T57 l1 x25_2).f0)).toNat * 2)).block, (ad366.add ((((rd_T57 l1 x25_2).f0)).toNat * 2)).off + 1, none⟩ = some (.int .i64 ((rd_T26 x7_2 ((rd_T57 l1 x25_2).f0)).f1)) := hS_
                                        refine norm_ (a' := ?_) ?_ ?_
                                        rotate_left
                                        · simp only [putAll, Act.put, List.setIfInBounds_toArray, List.set_cons_zero, List.set_cons_succ]
                                          rfl
                                        refine two_ (i := 13) (j := 14) (Ni := some 11) (Nj := some 12) #[true, true, true, true, true, true, true, true, true, true, true, true, true, true, false, false, false] #[true, true, true, true, true, true, true, true, true, true, true, true, true, false, true, false, false] rfl rfl rfl rfl (two_of HT_.out (by kernel_rfl)) (by decide) (by decide) (fun K hK => ?_) (fun K hK => ?_)
                                        · skip
                                          refine box_step ?hg (N := 11) ?hd (cs := #[.int .i64 0, .int .i64 0]) (t := 26) ?hr ?_; (case hd => rfl); (case hg => rfl); (case hr => first | (go_simp; done) | (go_simp; rfl))
                                          intro gb373 hg w47 hbox hb
                                          have HS3_ := (hb.cell (World.block_lt_of_cell? _ _ (hHeld.2.2.2.1))).trans (hHeld.2.2.2.1)
                                          have HS4_ := (hb.cell (World.block_lt_of_cell? _ _ (hHeld.2.2.2.2))).trans (hHeld.2.2.2.2)
                                          have n0_ := Aside0.mk (Kd.R_below (Kd.R_elderB (by (with_reducible repeat (first | apply Kd.R_alloc | apply Kd.R_drewN | apply Kd.R_drew)); exact HO_7.out) gb373 (Nat.le_of_eq hg.symm)) hb)
                                          have n1_ := Aside0.mk (blk_below (g := gb356) (o := .cells #[.int .i64 x357000_2, .int .i64 x357001_2] 26 (0, 0)) (by (with_reducible repeat (first | refine blk_drewN ?_ _ | refine blk_drew ?_ | refine blk_alloc ?_ _)); exact BK356.out) hb)
                                          have n2_ := Aside0.mk (blk_below (g := gb362) (o := .cells #[.int .i64 ((rd_T57 l1 x25_2).f0), .bool ((rd_T57 l1 x25_2).f1), .int .i64 ((rd_T57 l1 x25_2).f2)] 57 (0, 0)) (by (with_reducible repeat (first | refine blk_drewN ?_ _ | refine blk_drew ?_ | refine blk_alloc ?_ _)); exact BK362.out) hb)
                                          have n3_ := Aside0.mk (below_step (by repeat (first | (with_reducible first | exact HB.out | apply below_alloc | apply pw_below_drewN | apply below_drew1 | refine below_set ?_ GE356.out | refine below_set ?_ GE362.out) | exact HB.out)) hb)
                                          have n4_ := Aside0.mk (hbox)
                                          have n5_ := Aside0.mk ((by rw [hg]; exact (below_size (by repeat (first | (with_reducible first | exact HB.out | apply below_alloc | apply pw_below_drewN | apply below_drew1 | refine below_set ?_ GE356.out | refine below_set ?_ GE362.out) | exact HB.out))) : w.heap.size ≤ gb373))
                                          have n6_ := Aside0.mk ((by rw [hg]; exact (below_size (by repeat (first | (with_reducible first | exact HB.out | apply below_alloc | apply pw_below_drewN | apply below_drew1 | refine below_set ?_ GE356.out | refine below_set ?_ GE362.out) | exact HB.out))) : w.heap.size ≤ gb373))
                                          have n7_ := Aside0.mk ((by rw [hg]; exact Nat.ne_of_lt (blk_lt (g := gb356) (o := .cells #[.int .i64 x357000_2, .int .i64 x357001_2] 26 (0, 0)) (by (with_reducible repeat (first | refine blk_drewN ?_ _ | refine blk_drew ?_ | refine blk_alloc ?_ _)); exact BK356.out)) : gb356 ≠ gb373))
                                          have n8_ := Aside0.mk ((by rw [hg]; exact Nat.ne_of_gt (blk_lt (g := gb356) (o := .cells #[.int .i64 x357000_2, .int .i64 x357001_2] 26 (0, 0)) (by (with_reducible repeat (first | refine blk_drewN ?_ _ | refine blk_drew ?_ | refine blk_alloc ?_ _)); exact BK356.out)) : gb373 ≠ gb356))
                                          have n9_ := Aside0.mk ((by rw [hg]; exact Nat.ne_of_lt (blk_lt (g := gb362) (o := .cells #[.int .i64 ((rd_T57 l1 x25_2).f0), .bool ((rd_T57 l1 x25_2).f1), .int .i64 ((rd_T57 l1 x25_2).f2)] 57 (0, 0)) (by (with_reducible repeat (first | refine blk_drewN ?_ _ | refine blk_drew ?_ | refine blk_alloc ?_ _)); exact BK362.out)) : gb362 ≠ gb373))
                                          have n10_ := Aside0.mk ((by rw [hg]; exact Nat.ne_of_gt (blk_lt (g := gb362) (o := .cells #[.int .i64 ((rd_T57 l1 x25_2).f0), .bool ((rd_T57 l1 x25_2).f1), .int .i64 ((rd_T57 l1 x25_2).f2)] 57 (0, 0)) (by (with_reducible repeat (first | refine blk_drewN ?_ _ | refine blk_drew ?_ | refine blk_alloc ?_ _)); exact BK362.out)) : gb373 ≠ gb362))
                                          clear HO_7
                                          clear BK356
                                          clear BK362
                                          clear HB
                                          have HO_7 := n0_
                                          have BK356 := n1_
                                          have BK362 := n2_
                                          have HB := n3_
                                          have BK373 := n4_
                                          have GW373 := n5_
                                          have GE373 := n6_
                                          have NB356_373 := n7_
                                          have NB373_356 := n8_
                                          have NB362_373 := n9_
                                          have NB373_362 := n10_
                                          clear n0_ n1_ n2_ n3_ n4_ n5_ n6_ n7_ n8_ n9_ n10_
                                          clear hb hbox hg
                                          refine hK.out _ _ ⟨(blk_cell BK362.out 0).trans rfl, (blk_cell BK362.out 1).trans rfl, (blk_cell BK362.out 2).trans rfl, HS3_, HS4_⟩ (fun hHeld => ?_)
                                          clear hK K
                                          refine norm_ (a' := ?_) ?_ ?_
                                          rotate_left
                                          · show Act.put _ (some 11) _ = _
                                            simp only [Act.put, List.setIfInBounds_toArray, List.set_cons_zero, List.set_cons_succ, i64_w, i32_w]
                                            rfl
                                          exact norm_ (by first | (simp only [putAll, Act.put, List.setIfInBounds_toArray, List.set_cons_zero, List.set_cons_succ]; done) | (simp only [putAll, Act.put, List.setIfInBounds_toArray, List.set_cons_zero, List.set_cons_succ]; rfl)) (hJ9_13 (gb373) _ ⟨hHeld, (by (with_reducible repeat (first | apply Kd.R_alloc | apply Kd.R_drewN | apply Kd.R_drew)); exact HO_7.out), (by (with_reducible repeat (first | refine blk_drewN ?_ _ | refine blk_drew ?_ | refine blk_alloc ?_ _)); exact BK356.out), (by (with_reducible repeat (first | refine blk_drewN ?_ _ | refine blk_drew ?_ | refine blk_alloc ?_ _)); exact BK362.out), (by (with_reducible repeat (first | refine blk_drewN ?_ _ | refine blk_drew ?_ | refine blk_alloc ?_ _)); exact BK373.out), GW373.out, GE373.out, NB356_373.out, NB373_356.out, NB362_373.out, NB373_362.out, (by repeat (first | (with_reducible first | exact HB.out | apply below_alloc | apply pw_below_drewN | apply below_drew1 | refine below_set ?_ GE356.out | refine below_set ?_ GE362.out | refine below_set ?_ GE373.out) | exact HB.out))⟩)
                                        · skip
                                          refine box_step ?hg (N := 12) ?hd (cs := #[.int .i64 0, .int .i64 0]) (t := 26) ?hr ?_; (case hd => rfl); (case hg => rfl); (case hr => first | (go_simp; done) | (go_simp; rfl))
                                          intro gb374 hg w47 hbox hb
                                          have HS3_ := (hb.cell (World.block_lt_of_cell? _ _ (hHeld.2.2.2.1))).trans (hHeld.2.2.2.1)
                                          have HS4_ := (hb.cell (World.block_lt_of_cell? _ _ (hHeld.2.2.2.2))).trans (hHeld.2.2.2.2)
                                          have n0_ := Aside0.mk (Kd.R_below (Kd.R_elderB (by (with_reducible repeat (first | apply Kd.R_alloc | apply Kd.R_drewN | apply Kd.R_drew)); exact HO_7.out) gb374 (Nat.le_of_eq hg.symm)) hb)
                                          have n1_ := Aside0.mk (blk_below (g := gb356) (o := .cells #[.int .i64 x357000_2, .int .i64 x357001_2] 26 (0, 0)) (by (with_reducible repeat (first | refine blk_drewN ?_ _ | refine blk_drew ?_ | refine blk_alloc ?_ _)); exact BK356.out) hb)
                                          have n2_ := Aside0.mk (blk_below (g := gb362) (o := .cells #[.int .i64 ((rd_T57 l1 x25_2).f0), .bool ((rd_T57 l1 x25_2).f1), .int .i64 ((rd_T57 l1 x25_2).f2)] 57 (0, 0)) (by (with_reducible repeat (first | refine blk_drewN ?_ _ | refine blk_drew ?_ | refine blk_alloc ?_ _)); exact BK362.out) hb)
                                          have n3_ := Aside0.mk (below_step (by repeat (first | (with_reducible first | exact HB.out | apply below_alloc | apply pw_below_drewN | apply below_drew1 | refine below_set ?_ GE356.out | refine below_set ?_ GE362.out) | exact HB.out)) hb)
                                          have n4_ := Aside0.mk (hbox)
                                          have n5_ := Aside0.mk ((by rw [hg]; exact (below_size (by repeat (first | (with_reducible first | exact HB.out | apply below_alloc | apply pw_below_drewN | apply below_drew1 | refine below_set ?_ GE356.out | refine below_set ?_ GE362.out) | exact HB.out))) : w.heap.size ≤ gb374))
                                          have n6_ := Aside0.mk ((by rw [hg]; exact (below_size (by repeat (first | (with_reducible first | exact HB.out | apply below_alloc | apply pw_below_drewN | apply below_drew1 | refine below_set ?_ GE356.out | refine below_set ?_ GE362.out) | exact HB.out))) : w.heap.size ≤ gb374))
                                          have n7_ := Aside0.mk ((by rw [hg]; exact Nat.ne_of_lt (blk_lt (g := gb356) (o := .cells #[.int .i64 x357000_2, .int .i64 x357001_2] 26 (0, 0)) (by (with_reducible repeat (first | refine blk_drewN ?_ _ | refine blk_drew ?_ | refine blk_alloc ?_ _)); exact BK356.out)) : gb356 ≠ gb374))
                                          have n8_ := Aside0.mk ((by rw [hg]; exact Nat.ne_of_gt (blk_lt (g := gb356) (o := .cells #[.int .i64 x357000_2, .int .i64 x357001_2] 26 (0, 0)) (by (with_reducible repeat (first | refine blk_drewN ?_ _ | refine blk_drew ?_ | refine blk_alloc ?_ _)); exact BK356.out)) : gb374 ≠ gb356))
                                          have n9_ := Aside0.mk ((by rw [hg]; exact Nat.ne_of_lt (blk_lt (g := gb362) (o := .cells #[.int .i64 ((rd_T57 l1 x25_2).f0), .bool ((rd_T57 l1 x25_2).f1), .int .i64 ((rd_T57 l1 x25_2).f2)] 57 (0, 0)) (by (with_reducible repeat (first | refine blk_drewN ?_ _ | refine blk_drew ?_ | refine blk_alloc ?_ _)); exact BK362.out)) : gb362 ≠ gb374))
                                          have n10_ := Aside0.mk ((by rw [hg]; exact Nat.ne_of_gt (blk_lt (g := gb362) (o := .cells #[.int .i64 ((rd_T57 l1 x25_2).f0), .bool ((rd_T57 l1 x25_2).f1), .int .i64 ((rd_T57 l1 x25_2).f2)] 57 (0, 0)) (by (with_reducible repeat (first | refine blk_drewN ?_ _ | refine blk_drew ?_ | refine blk_alloc ?_ _)); exact BK362.out)) : gb374 ≠ gb362))
                                          clear HO_7
                                          clear BK356
                                          clear BK362
                                          clear HB
                                          have HO_7 := n0_
                                          have BK356 := n1_
                                          have BK362 := n2_
                                          have HB := n3_
                                          have BK374 := n4_
                                          have GW374 := n5_
                                          have GE374 := n6_
                                          have NB356_374 := n7_
                                          have NB374_356 := n8_
                                          have NB362_374 := n9_
                                          have NB374_362 := n10_
                                          clear n0_ n1_ n2_ n3_ n4_ n5_ n6_ n7_ n8_ n9_ n10_
                                          clear hb hbox hg
                                          refine hK.out _ _ ⟨(blk_cell BK362.out 0).trans rfl, (blk_cell BK362.out 1).trans rfl, (blk_cell BK362.out 2).trans rfl, HS3_, HS4_⟩ (fun hHeld => ?_)
                                          clear hK K
                                          refine norm_ (a' := ?_) ?_ ?_
                                          rotate_left
                                          · show Act.put _ (some 12) _ = _
                                            simp only [Act.put, List.setIfInBounds_toArray, List.set_cons_zero, List.set_cons_succ, i64_w, i32_w]
                                            rfl
                                          exact norm_ (by first | (simp only [putAll, Act.put, List.setIfInBounds_toArray, List.set_cons_zero, List.set_cons_succ]; done) | (simp only [putAll, Act.put, List.setIfInBounds_toArray, List.set_cons_zero, List.set_cons_succ]; rfl)) (hJ9_14 (gb374) _ ⟨hHeld, (by (with_reducible repeat (first | apply Kd.R_alloc | apply Kd.R_drewN | apply Kd.R_drew)); exact HO_7.out), (by (with_reducible repeat (first | refine blk_drewN ?_ _ | refine blk_drew ?_ | refine blk_alloc ?_ _)); exact BK356.out), (by (with_reducible repeat (first | refine blk_drewN ?_ _ | refine blk_drew ?_ | refine blk_alloc ?_ _)); exact BK362.out), (by (with_reducible repeat (first | refine blk_drewN ?_ _ | refine blk_drew ?_ | refine blk_alloc ?_ _)); exact BK374.out), GW374.out, GE374.out, NB356_374.out, NB374_356.out, NB362_374.out, NB374_362.out, (by repeat (first | (with_reducible first | exact HB.out | apply below_alloc | apply pw_below_drewN | apply below_drew1 | refine below_set ?_ GE356.out | refine below_set ?_ GE362.out | refine below_set ?_ GE374.out) | exact HB.out))⟩)
                                    · skip
                                      rintro ⟨gb373, gb374⟩ w47 ⟨hS_, h0_, h1_, h2_, h3_, h4_, h5_, h6_, h7_, h8_, h9_, h10_, h11_, h12_, h13_, h14_, h15_, h16_, h17_, h18_, h19_⟩
                                      have n0_ : Aside0 (Kd.R k26 26 w47 w.heap.size (fun k_ => k_ ≠ gb356 ∧ k_ ≠ gb373 ∧ k_ ≠ gb374) (.slice (some ad366) x7_2.length co42) x7_2) := ⟨h0_⟩
                                      have n1_ : Aside0 (w47.heap[gb356]? = some (.cells #[.int .i64 x357000_2, .int .i64 x357001_2] 26 (0, 0))) := ⟨h1_⟩
                                      have n2_ : Aside0 (w47.heap[gb362]? = some (.cells #[.int .i64 ((rd_T57 l1 x25_2).f0), .bool ((rd_T57 l1 x25_2).f1), .int .i64 ((rd_T57 l1 x25_2).f2)] 57 (0, 0))) := ⟨h2_⟩
                                      have n3_ : Aside0 (w47.heap[gb373]? = some (.cells #[.int .i64 0, .int .i64 0] 26 (0, 0))) := ⟨h3_⟩
                                      have n4_ : Aside0 (w47.heap[gb374]? = some (.cells #[.int .i64 0, .int .i64 0] 26 (0, 0))) := ⟨h4_⟩
                                      have n5_ : Aside0 (w.heap.size ≤ gb373) := ⟨h5_⟩
                                      have n6_ : Aside0 (w.heap.size ≤ gb373) := ⟨h6_⟩
                                      have n7_ : Aside0 (gb356 ≠ gb373) := ⟨h7_⟩
                                      have n8_ : Aside0 (gb373 ≠ gb356) := ⟨h8_⟩
                                      have n9_ : Aside0 (gb362 ≠ gb373) := ⟨h9_⟩
                                      have n10_ : Aside0 (gb373 ≠ gb362) := ⟨h10_⟩
                                      have n11_ : Aside0 (gb374 ≠ gb373) := ⟨h11_⟩
                                      have n12_ : Aside0 (gb373 ≠ gb374) := ⟨h12_⟩
                                      have n13_ : Aside0 (w.heap.size ≤ gb374) := ⟨h13_⟩
                                      have n14_ : Aside0 (w.heap.size ≤ gb374) := ⟨h14_⟩
                                      have n15_ : Aside0 (gb356 ≠ gb374) := ⟨h15_⟩
                                      have n16_ : Aside0 (gb374 ≠ gb356) := ⟨h16_⟩
                                      have n17_ : Aside0 (gb362 ≠ gb374) := ⟨h17_⟩
                                      have n18_ : Aside0 (gb374 ≠ gb362) := ⟨h18_⟩
                                      have n19_ : Aside0 (Below w.heap.size w w47) := ⟨h19_⟩
                                      clear HO_7
                                      clear BK356
                                      clear BK362
                                      clear HB
                                      clear h0_ h1_ h2_ h3_ h4_ h5_ h6_ h7_ h8_ h9_ h10_ h11_ h12_ h13_ h14_ h15_ h16_ h17_ h18_ h19_
                                      have HO_7 := n0_
                                      have BK356 := n1_
                                      have BK362 := n2_
                                      have BK373 := n3_
                                      have BK374 := n4_
                                      have GW373 := n5_
                                      have GE373 := n6_
                                      have NB356_373 := n7_
                                      have NB373_356 := n8_
                                      have NB362_373 := n9_
                                      have NB373_362 := n10_
                                      have NB374_373 := n11_
                                      have NB373_374 := n12_
                                      have GW374 := n13_
                                      have GE374 := n14_
                                      have NB356_374 := n15_
                                      have NB374_356 := n16_
                                      have NB362_374 := n17_
                                      have NB374_362 := n18_
                                      have HB := n19_
                                      clear n0_ n1_ n2_ n3_ n4_ n5_ n6_ n7_ n8_ n9_ n10_ n11_ n12_ n13_ n14_ n15_ n16_ n17_ n18_ n19_
                                      have hHeld : w47.cell? ⟨gb362, 0, none⟩ = some (.int .i64 ((rd_T57 l1 x25_2).f0)) ∧ w47.cell? ⟨gb362, 1, none⟩ = some (.bool ((rd_T57 l1 x25_2).f1)) ∧ w47.cell? ⟨gb362, 2, none⟩ = some (.int .i64 ((rd_T57 l1 x25_2).f2)) ∧ w47.cell? (ad366.add ((((rd_T57 l1 x25_2).f0)).toNat * 2)) = some (.int .i64 ((rd_T26 x7_2 ((rd_T57 l1 x25_2).f0)).f0)) ∧ w47.cell? ⟨(ad366.add ((((rd_T57 l1 x25_2).f0)).toNat * 2)).block, (ad366.add ((((rd_T57 l1 x25_2).f0)).toNat * 2)).off + 1, none⟩ = some (.int .i64 ((rd_T26 x7_2 ((rd_T57 l1 x25_2).f0)).f1)) := hS_
                                      refine norm_ (a' := ?_) ?_ ?_
                                      rotate_left
                                      · simp only [putAll, Act.put, List.setIfInBounds_toArray, List.set_cons_zero, List.set_cons_succ]
                                        rfl
                                      refine one_ (i := 9) (N := some 69) #[true, true, true, true, true, true, true, true, true, true, false, false, false, true, true, false, false] rfl rfl (one_of HT_.out (by kernel_rfl)) (by decide) (fun K hK => ?_)
                                      refine goes_ Try.func49 (by kernel_rfl) rfl #[.agg #[.int .i64 ((rd_T26 x7_2 ((rd_T57 l1 x25_2).f0)).f0), .int .i64 ((rd_T26 x7_2 ((rd_T57 l1 x25_2).f0)).f1)], .bool ((rd_T57 l1 x25_2).f1), .int .i64 ((rd_T57 l1 x25_2).f2)] (by rfl) rfl rfl (by (try simp only [List.map_toArray, List.map_cons, List.map_nil]); first | done | rfl | (simp only [List.length_drop, List.length_take]; rfl)) ?_
                                      with_reducible refine (spec_brParts.calls ((rd_T26 x7_2 ((rd_T57 l1 x25_2).f0)).f0) ((rd_T26 x7_2 ((rd_T57 l1 x25_2).f0)).f1) ((rd_T57 l1 x25_2).f1) ((rd_T57 l1 x25_2).f2) t369 t370 t371 t372 _ A38.out).mono ?_
                                      rintro e w48 ⟨rfl, hb⟩
                                      have HS3_ := (hb.cell (World.block_lt_of_cell? _ _ (hHeld.2.2.2.1))).trans (hHeld.2.2.2.1)
                                      have HS4_ := (hb.cell (World.block_lt_of_cell? _ _ (hHeld.2.2.2.2))).trans (hHeld.2.2.2.2)
                                      refine ⟨_, rfl, ?_⟩
                                      have n0_ := Aside0.mk (Kd.R_below (by (with_reducible repeat (first | apply Kd.R_alloc | apply Kd.R_drewN | apply Kd.R_drew)); exact HO_7.out) hb)
                                      have n1_ := Aside0.mk (blk_below (g := gb356) (o := .cells #[.int .i64 x357000_2, .int .i64 x357001_2] 26 (0, 0)) (by (with_reducible repeat (first | refine blk_drewN ?_ _ | refine blk_drew ?_ | refine blk_alloc ?_ _)); exact BK356.out) hb)
                                      have n2_ := Aside0.mk (blk_below (g := gb362) (o := .cells #[.int .i64 ((rd_T57 l1 x25_2).f0), .bool ((rd_T57 l1 x25_2).f1), .int .i64 ((rd_T57 l1 x25_2).f2)] 57 (0, 0)) (by (with_reducible repeat (first | refine blk_drewN ?_ _ | refine blk_drew ?_ | refine blk_alloc ?_ _)); exact BK362.out) hb)
                                      have n3_ := Aside0.mk (blk_below (g := gb373) (o := .cells #[.int .i64 0, .int .i64 0] 26 (0, 0)) (by (with_reducible repeat (first | refine blk_drewN ?_ _ | refine blk_drew ?_ | refine blk_alloc ?_ _)); exact BK373.out) hb)
                                      have n4_ := Aside0.mk (blk_below (g := gb374) (o := .cells #[.int .i64 0, .int .i64 0] 26 (0, 0)) (by (with_reducible repeat (first | refine blk_drewN ?_ _ | refine blk_drew ?_ | refine blk_alloc ?_ _)); exact BK374.out) hb)
                                      have n5_ := Aside0.mk (below_step (by repeat (first | (with_reducible first | exact HB.out | apply below_alloc | apply pw_below_drewN | apply below_drew1 | refine below_set ?_ GE356.out | refine below_set ?_ GE362.out | refine below_set ?_ GE373.out | refine below_set ?_ GE374.out) | exact HB.out)) hb)
                                      clear HO_7
                                      clear BK356
                                      clear BK362
                                      clear BK373
                                      clear BK374
                                      clear HB
                                      have HO_7 := n0_
                                      have BK356 := n1_
                                      have BK362 := n2_
                                      have BK373 := n3_
                                      have BK374 := n4_
                                      have HB := n5_
                                      clear n0_ n1_ n2_ n3_ n4_ n5_
                                      (try clear hb)
                                      (try clear hb2)
                                      (try clear hk)
                                      (try clear hi)
                                      refine hK.out _ _ ⟨(blk_cell BK362.out 0).trans rfl, (blk_cell BK362.out 1).trans rfl, (blk_cell BK362.out 2).trans rfl, HS3_, HS4_⟩ (fun hHeld => ?_)
                                      clear hK K
                                      refine norm_ (a' := ?_) ?_ ?_
                                      rotate_left
                                      · show Act.put _ (some 69) _ = _
                                        simp only [Act.put, List.setIfInBounds_toArray, List.set_cons_zero, List.set_cons_succ, i64_w, i32_w]
                                        rfl
                                      refine pure_ (i := 10) (N := some 59) (v := ?_) (a' := ?_) #[true, true, true, true, true, true, true, true, true, true, true, false, false, true, true, false, false] rfl rfl (any_of HT_.out (by kernel_rfl)) (fun _ _ _ h => h) (Or.inl ⟨by rfl, ?_⟩) ?_ ?_
                                      rotate_left
                                      · intro w'
                                        go_simp
                                        with_reducible rfl
                                      rotate_left
                                      · simp only [Act.put, List.setIfInBounds_toArray, List.set_cons_zero, List.set_cons_succ, i64_w, i32_w]
                                        rfl
                                      refine pure_ (i := 11) (N := some 70) (v := ?_) (a' := ?_) #[true, true, true, true, true, true, true, true, true, true, true, true, false, true, true, false, false] rfl rfl (any_of HT_.out (by kernel_rfl)) (fun _ _ _ h => h) (Or.inl ⟨by rfl, ?_⟩) ?_ ?_
                                      rotate_left
                                      · intro w'
                                        go_simp
                                        with_reducible rfl
                                      rotate_left
                                      · simp only [Act.put, List.setIfInBounds_toArray, List.set_cons_zero, List.set_cons_succ, i64_w, i32_w]
                                        rfl
                                      refine pure_ (i := 12) (N := some 71) (v := ?_) (a' := ?_) #[true, true, true, true, true, true, true, true, true, true, true, true, true, true, true, false, false] rfl rfl (any_of HT_.out (by kernel_rfl)) (fun _ _ _ h => h) (Or.inl ⟨by rfl, ?_⟩) ?_ ?_
                                      rotate_left
                                      · intro w'
                                        go_simp
                                        with_reducible rfl
                                      rotate_left
                                      · simp only [Act.put, List.setIfInBounds_toArray, List.set_cons_zero, List.set_cons_succ, i64_w, i32_w]
                                        rfl
                                      exact norm_ (by first | (simp only [putAll, Act.put, List.setIfInBounds_toArray, List.set_cons_zero, List.set_cons_succ]; done) | (simp only [putAll, Act.put, List.setIfInBounds_toArray, List.set_cons_zero, List.set_cons_succ]; rfl)) (hJ9_13_14 (gb373, gb374) _ ⟨hHeld, (by (with_reducible repeat (first | apply Kd.R_alloc | apply Kd.R_drewN | apply Kd.R_drew)); exact HO_7.out), (by (with_reducible repeat (first | refine blk_drewN ?_ _ | refine blk_drew ?_ | refine blk_alloc ?_ _)); exact BK356.out), (by (with_reducible repeat (first | refine blk_drewN ?_ _ | refine blk_drew ?_ | refine blk_alloc ?_ _)); exact BK362.out), (by (with_reducible repeat (first | refine blk_drewN ?_ _ | refine blk_drew ?_ | refine blk_alloc ?_ _)); exact BK373.out), (by (with_reducible repeat (first | refine blk_drewN ?_ _ | refine blk_drew ?_ | refine blk_alloc ?_ _)); exact BK374.out), GW373.out, GE373.out, NB356_373.out, NB373_356.out, NB362_373.out, NB373_362.out, NB374_373.out, NB373_374.out, GW374.out, GE374.out, NB356_374.out, NB374_356.out, NB362_374.out, NB374_362.out, (by repeat (first | (with_reducible first | exact HB.out | apply below_alloc | apply pw_below_drewN | apply below_drew1 | refine below_set ?_ GE356.out | refine below_set ?_ GE362.out | refine below_set ?_ GE373.out | refine below_set ?_ GE374.out) | exact HB.out))⟩)
                                  · skip
                                    rintro gb374 w47 ⟨hS_, h0_, h1_, h2_, h3_, h4_, h5_, h6_, h7_, h8_, h9_, h10_⟩
                                    have n0_ : Aside0 (Kd.R k26 26 w47 w.heap.size (fun k_ => k_ ≠ gb356 ∧ k_ ≠ gb374) (.slice (some ad366) x7_2.length co42) x7_2) := ⟨h0_⟩
                                    have n1_ : Aside0 (w47.heap[gb356]? = some (.cells #[.int .i64 x357000_2, .int .i64 x357001_2] 26 (0, 0))) := ⟨h1_⟩
                                    have n2_ : Aside0 (w47.heap[gb362]? = some (.cells #[.int .i64 ((rd_T57 l1 x25_2).f0), .bool ((rd_T57 l1 x25_2).f1), .int .i64 ((rd_T57 l1 x25_2).f2)] 57 (0, 0))) := ⟨h2_⟩
                                    have n3_ : Aside0 (w47.heap[gb374]? = some (.cells #[.int .i64 0, .int .i64 0] 26 (0, 0))) := ⟨h3_⟩
                                    have n4_ : Aside0 (w.heap.size ≤ gb374) := ⟨h4_⟩
                                    have n5_ : Aside0 (w.heap.size ≤ gb374) := ⟨h5_⟩
                                    have n6_ : Aside0 (gb356 ≠ gb374) := ⟨h6_⟩
                                    have n7_ : Aside0 (gb374 ≠ gb356) := ⟨h7_⟩
                                    have n8_ : Aside0 (gb362 ≠ gb374) := ⟨h8_⟩
                                    have n9_ : Aside0 (gb374 ≠ gb362) := ⟨h9_⟩
                                    have n10_ : Aside0 (Below w.heap.size w w47) := ⟨h10_⟩
                                    clear HO_7
                                    clear BK356
                                    clear BK362
                                    clear HB
                                    clear h0_ h1_ h2_ h3_ h4_ h5_ h6_ h7_ h8_ h9_ h10_
                                    have HO_7 := n0_
                                    have BK356 := n1_
                                    have BK362 := n2_
                                    have BK374 := n3_
                                    have GW374 := n4_
                                    have GE374 := n5_
                                    have NB356_374 := n6_
                                    have NB374_356 := n7_
                                    have NB362_374 := n8_
                                    have NB374_362 := n9_
                                    have HB := n10_
                                    clear n0_ n1_ n2_ n3_ n4_ n5_ n6_ n7_ n8_ n9_ n10_
                                    have hHeld : w47.cell? ⟨gb362, 0, none⟩ = some (.int .i64 ((rd_T57 l1 x25_2).f0)) ∧ w47.cell? ⟨gb362, 1, none⟩ = some (.bool ((rd_T57 l1 x25_2).f1)) ∧ w47.cell? ⟨gb362, 2, none⟩ = some (.int .i64 ((rd_T57 l1 x25_2).f2)) ∧ w47.cell? (ad366.add ((((rd_T57 l1 x25_2).f0)).toNat * 2)) = some (.int .i64 ((rd_T26 x7_2 ((rd_T57 l1 x25_2).f0)).f0)) ∧ w47.cell? ⟨(ad366.add ((((rd_T57 l1 x25_2).f0)).toNat * 2)).block, (ad366.add ((((rd_T57 l1 x25_2).f0)).toNat * 2)).off + 1, none⟩ = some (.int .i64 ((rd_T26 x7_2 ((rd_T57 l1 x25_2).f0)).f1)) := hS_
                                    refine norm_ (a' := ?_) ?_ ?_
                                    rotate_left
                                    · simp only [putAll, Act.put, List.setIfInBounds_toArray, List.set_cons_zero, List.set_cons_succ]
                                      rfl
                                    refine one_ (i := 13) (N := some 11) #[true, true, true, true, true, true, true, true, true, true, true, true, true, true, true, false, false] rfl rfl (one_of HT_.out (by kernel_rfl)) (by decide) (fun K hK => ?_)
                                    refine box_step ?hg (N := 11) ?hd (cs := #[.int .i64 0, .int .i64 0]) (t := 26) ?hr ?_; (case hd => rfl); (case hg => rfl); (case hr => first | (go_simp; done) | (go_simp; rfl))
                                    intro gb373 hg w48 hbox hb
                                    have HS3_ := (hb.cell (World.block_lt_of_cell? _ _ (hHeld.2.2.2.1))).trans (hHeld.2.2.2.1)
                                    have HS4_ := (hb.cell (World.block_lt_of_cell? _ _ (hHeld.2.2.2.2))).trans (hHeld.2.2.2.2)
                                    have n0_ := Aside0.mk (Kd.R_below (Kd.R_elderB (by (with_reducible repeat (first | apply Kd.R_alloc | apply Kd.R_drewN | apply Kd.R_drew)); exact HO_7.out) gb373 (Nat.le_of_eq hg.symm)) hb)
                                    have n1_ := Aside0.mk (blk_below (g := gb356) (o := .cells #[.int .i64 x357000_2, .int .i64 x357001_2] 26 (0, 0)) (by (with_reducible repeat (first | refine blk_drewN ?_ _ | refine blk_drew ?_ | refine blk_alloc ?_ _)); exact BK356.out) hb)
                                    have n2_ := Aside0.mk (blk_below (g := gb362) (o := .cells #[.int .i64 ((rd_T57 l1 x25_2).f0), .bool ((rd_T57 l1 x25_2).f1), .int .i64 ((rd_T57 l1 x25_2).f2)] 57 (0, 0)) (by (with_reducible repeat (first | refine blk_drewN ?_ _ | refine blk_drew ?_ | refine blk_alloc ?_ _)); exact BK362.out) hb)
                                    have n3_ := Aside0.mk (blk_below (g := gb374) (o := .cells #[.int .i64 0, .int .i64 0] 26 (0, 0)) (by (with_reducible repeat (first | refine blk_drewN ?_ _ | refine blk_drew ?_ | refine blk_alloc ?_ _)); exact BK374.out) hb)
                                    have n4_ := Aside0.mk (below_step (by repeat (first | (with_reducible first | exact HB.out | apply below_alloc | apply pw_below_drewN | apply below_drew1 | refine below_set ?_ GE356.out | refine below_set ?_ GE362.out | refine below_set ?_ GE374.out) | exact HB.out)) hb)
                                    have n5_ := Aside0.mk (hbox)
                                    have n6_ := Aside0.mk ((by rw [hg]; exact (below_size (by repeat (first | (with_reducible first | exact HB.out | apply below_alloc | apply pw_below_drewN | apply below_drew1 | refine below_set ?_ GE356.out | refine below_set ?_ GE362.out | refine below_set ?_ GE374.out) | exact HB.out))) : w.heap.size ≤ gb373))
                                    have n7_ := Aside0.mk ((by rw [hg]; exact (below_size (by repeat (first | (with_reducible first | exact HB.out | apply below_alloc | apply pw_below_drewN | apply below_drew1 | refine below_set ?_ GE356.out | refine below_set ?_ GE362.out | refine below_set ?_ GE374.out) | exact HB.out))) : w.heap.size ≤ gb373))
                                    have n8_ := Aside0.mk ((by rw [hg]; exact Nat.ne_of_lt (blk_lt (g := gb356) (o := .cells #[.int .i64 x357000_2, .int .i64 x357001_2] 26 (0, 0)) (by (with_reducible repeat (first | refine blk_drewN ?_ _ | refine blk_drew ?_ | refine blk_alloc ?_ _)); exact BK356.out)) : gb356 ≠ gb373))
                                    have n9_ := Aside0.mk ((by rw [hg]; exact Nat.ne_of_gt (blk_lt (g := gb356) (o := .cells #[.int .i64 x357000_2, .int .i64 x357001_2] 26 (0, 0)) (by (with_reducible repeat (first | refine blk_drewN ?_ _ | refine blk_drew ?_ | refine blk_alloc ?_ _)); exact BK356.out)) : gb373 ≠ gb356))
                                    have n10_ := Aside0.mk ((by rw [hg]; exact Nat.ne_of_lt (blk_lt (g := gb362) (o := .cells #[.int .i64 ((rd_T57 l1 x25_2).f0), .bool ((rd_T57 l1 x25_2).f1), .int .i64 ((rd_T57 l1 x25_2).f2)] 57 (0, 0)) (by (with_reducible repeat (first | refine blk_drewN ?_ _ | refine blk_drew ?_ | refine blk_alloc ?_ _)); exact BK362.out)) : gb362 ≠ gb373))
                                    have n11_ := Aside0.mk ((by rw [hg]; exact Nat.ne_of_gt (blk_lt (g := gb362) (o := .cells #[.int .i64 ((rd_T57 l1 x25_2).f0), .bool ((rd_T57 l1 x25_2).f1), .int .i64 ((rd_T57 l1 x25_2).f2)] 57 (0, 0)) (by (with_reducible repeat (first | refine blk_drewN ?_ _ | refine blk_drew ?_ | refine blk_alloc ?_ _)); exact BK362.out)) : gb373 ≠ gb362))
                                    have n12_ := Aside0.mk ((by rw [hg]; exact Nat.ne_of_lt (blk_lt (g := gb374) (o := .cells #[.int .i64 0, .int .i64 0] 26 (0, 0)) (by (with_reducible repeat (first | refine blk_drewN ?_ _ | refine blk_drew ?_ | refine blk_alloc ?_ _)); exact BK374.out)) : gb374 ≠ gb373))
                                    have n13_ := Aside0.mk ((by rw [hg]; exact Nat.ne_of_gt (blk_lt (g := gb374) (o := .cells #[.int .i64 0, .int .i64 0] 26 (0, 0)) (by (with_reducible repeat (first | refine blk_drewN ?_ _ | refine blk_drew ?_ | refine blk_alloc ?_ _)); exact BK374.out)) : gb373 ≠ gb374))
                                    clear HO_7
                                    clear BK356
                                    clear BK362
                                    clear BK374
                                    clear HB
                                    have HO_7 := n0_
                                    have BK356 := n1_
                                    have BK362 := n2_
                                    have BK374 := n3_
                                    have HB := n4_
                                    have BK373 := n5_
                                    have GW373 := n6_
                                    have GE373 := n7_
                                    have NB356_373 := n8_
                                    have NB373_356 := n9_
                                    have NB362_373 := n10_
                                    have NB373_362 := n11_
                                    have NB374_373 := n12_
                                    have NB373_374 := n13_
                                    clear n0_ n1_ n2_ n3_ n4_ n5_ n6_ n7_ n8_ n9_ n10_ n11_ n12_ n13_
                                    clear hb hbox hg
                                    refine hK.out _ _ ⟨(blk_cell BK362.out 0).trans rfl, (blk_cell BK362.out 1).trans rfl, (blk_cell BK362.out 2).trans rfl, HS3_, HS4_⟩ (fun hHeld => ?_)
                                    clear hK K
                                    refine norm_ (a' := ?_) ?_ ?_
                                    rotate_left
                                    · show Act.put _ (some 11) _ = _
                                      simp only [Act.put, List.setIfInBounds_toArray, List.set_cons_zero, List.set_cons_succ, i64_w, i32_w]
                                      rfl
                                    exact norm_ (by first | (simp only [putAll, Act.put, List.setIfInBounds_toArray, List.set_cons_zero, List.set_cons_succ]; done) | (simp only [putAll, Act.put, List.setIfInBounds_toArray, List.set_cons_zero, List.set_cons_succ]; rfl)) (hJ9_13_14 (gb373, gb374) _ ⟨hHeld, (by (with_reducible repeat (first | apply Kd.R_alloc | apply Kd.R_drewN | apply Kd.R_drew)); exact Kd.R_mono HO_7.out (fun _ hk => ⟨hk.1.1, ⟨hk.2, hk.1.2⟩⟩)), (by (with_reducible repeat (first | refine blk_drewN ?_ _ | refine blk_drew ?_ | refine blk_alloc ?_ _)); exact BK356.out), (by (with_reducible repeat (first | refine blk_drewN ?_ _ | refine blk_drew ?_ | refine blk_alloc ?_ _)); exact BK362.out), (by (with_reducible repeat (first | refine blk_drewN ?_ _ | refine blk_drew ?_ | refine blk_alloc ?_ _)); exact BK373.out), (by (with_reducible repeat (first | refine blk_drewN ?_ _ | refine blk_drew ?_ | refine blk_alloc ?_ _)); exact BK374.out), GW373.out, GE373.out, NB356_373.out, NB373_356.out, NB362_373.out, NB373_362.out, NB374_373.out, NB373_374.out, GW374.out, GE374.out, NB356_374.out, NB374_356.out, NB362_374.out, NB374_362.out, (by repeat (first | (with_reducible first | exact HB.out | apply below_alloc | apply pw_below_drewN | apply below_drew1 | refine below_set ?_ GE356.out | refine below_set ?_ GE362.out | refine below_set ?_ GE374.out | refine below_set ?_ GE373.out) | exact HB.out))⟩)
                                · skip
                                  rintro gb373 w47 ⟨hS_, h0_, h1_, h2_, h3_, h4_, h5_, h6_, h7_, h8_, h9_, h10_⟩
                                  have n0_ : Aside0 (Kd.R k26 26 w47 w.heap.size (fun k_ => k_ ≠ gb356 ∧ k_ ≠ gb373) (.slice (some ad366) x7_2.length co42) x7_2) := ⟨h0_⟩
                                  have n1_ : Aside0 (w47.heap[gb356]? = some (.cells #[.int .i64 x357000_2, .int .i64 x357001_2] 26 (0, 0))) := ⟨h1_⟩
                                  have n2_ : Aside0 (w47.heap[gb362]? = some (.cells #[.int .i64 ((rd_T57 l1 x25_2).f0), .bool ((rd_T57 l1 x25_2).f1), .int .i64 ((rd_T57 l1 x25_2).f2)] 57 (0, 0))) := ⟨h2_⟩
                                  have n3_ : Aside0 (w47.heap[gb373]? = some (.cells #[.int .i64 0, .int .i64 0] 26 (0, 0))) := ⟨h3_⟩
                                  have n4_ : Aside0 (w.heap.size ≤ gb373) := ⟨h4_⟩
                                  have n5_ : Aside0 (w.heap.size ≤ gb373) := ⟨h5_⟩
                                  have n6_ : Aside0 (gb356 ≠ gb373) := ⟨h6_⟩
                                  have n7_ : Aside0 (gb373 ≠ gb356) := ⟨h7_⟩
                                  have n8_ : Aside0 (gb362 ≠ gb373) := ⟨h8_⟩
                                  have n9_ : Aside0 (gb373 ≠ gb362) := ⟨h9_⟩
                                  have n10_ : Aside0 (Below w.heap.size w w47) := ⟨h10_⟩
                                  clear HO_7
                                  clear BK356
                                  clear BK362
                                  clear HB
                                  clear h0_ h1_ h2_ h3_ h4_ h5_ h6_ h7_ h8_ h9_ h10_
                                  have HO_7 := n0_
                                  have BK356 := n1_
                                  have BK362 := n2_
                                  have BK373 := n3_
                                  have GW373 := n4_
                                  have GE373 := n5_
                                  have NB356_373 := n6_
                                  have NB373_356 := n7_
                                  have NB362_373 := n8_
                                  have NB373_362 := n9_
                                  have HB := n10_
                                  clear n0_ n1_ n2_ n3_ n4_ n5_ n6_ n7_ n8_ n9_ n10_
                                  have hHeld : w47.cell? ⟨gb362, 0, none⟩ = some (.int .i64 ((rd_T57 l1 x25_2).f0)) ∧ w47.cell? ⟨gb362, 1, none⟩ = some (.bool ((rd_T57 l1 x25_2).f1)) ∧ w47.cell? ⟨gb362, 2, none⟩ = some (.int .i64 ((rd_T57 l1 x25_2).f2)) ∧ w47.cell? (ad366.add ((((rd_T57 l1 x25_2).f0)).toNat * 2)) = some (.int .i64 ((rd_T26 x7_2 ((rd_T57 l1 x25_2).f0)).f0)) ∧ w47.cell? ⟨(ad366.add ((((rd_T57 l1 x25_2).f0)).toNat * 2)).block, (ad366.add ((((rd_T57 l1 x25_2).f0)).toNat * 2)).off + 1, none⟩ = some (.int .i64 ((rd_T26 x7_2 ((rd_T57 l1 x25_2).f0)).f1)) := hS_
                                  refine norm_ (a' := ?_) ?_ ?_
                                  rotate_left
                                  · simp only [putAll, Act.put, List.setIfInBounds_toArray, List.set_cons_zero, List.set_cons_succ]
                                    rfl
                                  refine one_ (i := 14) (N := some 12) #[true, true, true, true, true, true, true, true, true, true, true, true, true, true, true, false, false] rfl rfl (one_of HT_.out (by kernel_rfl)) (by decide) (fun K hK => ?_)
                                  refine box_step ?hg (N := 12) ?hd (cs := #[.int .i64 0, .int .i64 0]) (t := 26) ?hr ?_; (case hd => rfl); (case hg => rfl); (case hr => first | (go_simp; done) | (go_simp; rfl))
                                  intro gb374 hg w48 hbox hb
                                  have HS3_ := (hb.cell (World.block_lt_of_cell? _ _ (hHeld.2.2.2.1))).trans (hHeld.2.2.2.1)
                                  have HS4_ := (hb.cell (World.block_lt_of_cell? _ _ (hHeld.2.2.2.2))).trans (hHeld.2.2.2.2)
                                  have n0_ := Aside0.mk (Kd.R_below (Kd.R_elderB (by (with_reducible repeat (first | apply Kd.R_alloc | apply Kd.R_drewN | apply Kd.R_drew)); exact HO_7.out) gb374 (Nat.le_of_eq hg.symm)) hb)
                                  have n1_ := Aside0.mk (blk_below (g := gb356) (o := .cells #[.int .i64 x357000_2, .int .i64 x357001_2] 26 (0, 0)) (by (with_reducible repeat (first | refine blk_drewN ?_ _ | refine blk_drew ?_ | refine blk_alloc ?_ _)); exact BK356.out) hb)
                                  have n2_ := Aside0.mk (blk_below (g := gb362) (o := .cells #[.int .i64 ((rd_T57 l1 x25_2).f0), .bool ((rd_T57 l1 x25_2).f1), .int .i64 ((rd_T57 l1 x25_2).f2)] 57 (0, 0)) (by (with_reducible repeat (first | refine blk_drewN ?_ _ | refine blk_drew ?_ | refine blk_alloc ?_ _)); exact BK362.out) hb)
                                  have n3_ := Aside0.mk (blk_below (g := gb373) (o := .cells #[.int .i64 0, .int .i64 0] 26 (0, 0)) (by (with_reducible repeat (first | refine blk_drewN ?_ _ | refine blk_drew ?_ | refine blk_alloc ?_ _)); exact BK373.out) hb)
                                  have n4_ := Aside0.mk (below_step (by repeat (first | (with_reducible first | exact HB.out | apply below_alloc | apply pw_below_drewN | apply below_drew1 | refine below_set ?_ GE356.out | refine below_set ?_ GE362.out | refine below_set ?_ GE373.out) | exact HB.out)) hb)
                                  have n5_ := Aside0.mk (hbox)
                                  have n6_ := Aside0.mk ((by rw [hg]; exact (below_size (by repeat (first | (with_reducible first | exact HB.out | apply below_alloc | apply pw_below_drewN | apply below_drew1 | refine below_set ?_ GE356.out | refine below_set ?_ GE362.out | refine below_set ?_ GE373.out) | exact HB.out))) : w.heap.size ≤ gb374))
                                  have n7_ := Aside0.mk ((by rw [hg]; exact (below_size (by repeat (first | (with_reducible first | exact HB.out | apply below_alloc | apply pw_below_drewN | apply below_drew1 | refine below_set ?_ GE356.out | refine below_set ?_ GE362.out | refine below_set ?_ GE373.out) | exact HB.out))) : w.heap.size ≤ gb374))
                                  have n8_ := Aside0.mk ((by rw [hg]; exact Nat.ne_of_lt (blk_lt (g := gb356) (o := .cells #[.int .i64 x357000_2, .int .i64 x357001_2] 26 (0, 0)) (by (with_reducible repeat (first | refine blk_drewN ?_ _ | refine blk_drew ?_ | refine blk_alloc ?_ _)); exact BK356.out)) : gb356 ≠ gb374))
                                  have n9_ := Aside0.mk ((by rw [hg]; exact Nat.ne_of_gt (blk_lt (g := gb356) (o := .cells #[.int .i64 x357000_2, .int .i64 x357001_2] 26 (0, 0)) (by (with_reducible repeat (first | refine blk_drewN ?_ _ | refine blk_drew ?_ | refine blk_alloc ?_ _)); exact BK356.out)) : gb374 ≠ gb356))
                                  have n10_ := Aside0.mk ((by rw [hg]; exact Nat.ne_of_lt (blk_lt (g := gb362) (o := .cells #[.int .i64 ((rd_T57 l1 x25_2).f0), .bool ((rd_T57 l1 x25_2).f1), .int .i64 ((rd_T57 l1 x25_2).f2)] 57 (0, 0)) (by (with_reducible repeat (first | refine blk_drewN ?_ _ | refine blk_drew ?_ | refine blk_alloc ?_ _)); exact BK362.out)) : gb362 ≠ gb374))
                                  have n11_ := Aside0.mk ((by rw [hg]; exact Nat.ne_of_gt (blk_lt (g := gb362) (o := .cells #[.int .i64 ((rd_T57 l1 x25_2).f0), .bool ((rd_T57 l1 x25_2).f1), .int .i64 ((rd_T57 l1 x25_2).f2)] 57 (0, 0)) (by (with_reducible repeat (first | refine blk_drewN ?_ _ | refine blk_drew ?_ | refine blk_alloc ?_ _)); exact BK362.out)) : gb374 ≠ gb362))
                                  have n12_ := Aside0.mk ((by rw [hg]; exact Nat.ne_of_lt (blk_lt (g := gb373) (o := .cells #[.int .i64 0, .int .i64 0] 26 (0, 0)) (by (with_reducible repeat (first | refine blk_drewN ?_ _ | refine blk_drew ?_ | refine blk_alloc ?_ _)); exact BK373.out)) : gb373 ≠ gb374))
                                  have n13_ := Aside0.mk ((by rw [hg]; exact Nat.ne_of_gt (blk_lt (g := gb373) (o := .cells #[.int .i64 0, .int .i64 0] 26 (0, 0)) (by (with_reducible repeat (first | refine blk_drewN ?_ _ | refine blk_drew ?_ | refine blk_alloc ?_ _)); exact BK373.out)) : gb374 ≠ gb373))
                                  clear HO_7
                                  clear BK356
                                  clear BK362
                                  clear BK373
                                  clear HB
                                  have HO_7 := n0_
                                  have BK356 := n1_
                                  have BK362 := n2_
                                  have BK373 := n3_
                                  have HB := n4_
                                  have BK374 := n5_
                                  have GW374 := n6_
                                  have GE374 := n7_
                                  have NB356_374 := n8_
                                  have NB374_356 := n9_
                                  have NB362_374 := n10_
                                  have NB374_362 := n11_
                                  have NB373_374 := n12_
                                  have NB374_373 := n13_
                                  clear n0_ n1_ n2_ n3_ n4_ n5_ n6_ n7_ n8_ n9_ n10_ n11_ n12_ n13_
                                  clear hb hbox hg
                                  refine hK.out _ _ ⟨(blk_cell BK362.out 0).trans rfl, (blk_cell BK362.out 1).trans rfl, (blk_cell BK362.out 2).trans rfl, HS3_, HS4_⟩ (fun hHeld => ?_)
                                  clear hK K
                                  refine norm_ (a' := ?_) ?_ ?_
                                  rotate_left
                                  · show Act.put _ (some 12) _ = _
                                    simp only [Act.put, List.setIfInBounds_toArray, List.set_cons_zero, List.set_cons_succ, i64_w, i32_w]
                                    rfl
                                  exact norm_ (by first | (simp only [putAll, Act.put, List.setIfInBounds_toArray, List.set_cons_zero, List.set_cons_succ]; done) | (simp only [putAll, Act.put, List.setIfInBounds_toArray, List.set_cons_zero, List.set_cons_succ]; rfl)) (hJ9_13_14 (gb373, gb374) _ ⟨hHeld, (by (with_reducible repeat (first | apply Kd.R_alloc | apply Kd.R_drewN | apply Kd.R_drew)); exact Kd.R_mono HO_7.out (fun _ hk => ⟨hk.1.1, ⟨hk.1.2, hk.2⟩⟩)), (by (with_reducible repeat (first | refine blk_drewN ?_ _ | refine blk_drew ?_ | refine blk_alloc ?_ _)); exact BK356.out), (by (with_reducible repeat (first | refine blk_drewN ?_ _ | refine blk_drew ?_ | refine blk_alloc ?_ _)); exact BK362.out), (by (with_reducible repeat (first | refine blk_drewN ?_ _ | refine blk_drew ?_ | refine blk_alloc ?_ _)); exact BK373.out), (by (with_reducible repeat (first | refine blk_drewN ?_ _ | refine blk_drew ?_ | refine blk_alloc ?_ _)); exact BK374.out), GW373.out, GE373.out, NB356_373.out, NB373_356.out, NB362_373.out, NB373_362.out, NB374_373.out, NB373_374.out, GW374.out, GE374.out, NB356_374.out, NB374_356.out, NB362_374.out, NB374_362.out, (by repeat (first | (with_reducible first | exact HB.out | apply below_alloc | apply pw_below_drewN | apply below_drew1 | refine below_set ?_ GE356.out | refine below_set ?_ GE362.out | refine below_set ?_ GE373.out | refine below_set ?_ GE374.out) | exact HB.out))⟩)
                              rintro ⟨gb373, gb374⟩ w48 ⟨hS_, h0_, h1_, h2_, h3_, h4_, h5_, h6_, h7_, h8_, h9_, h10_, h11_, h12_, h13_, h14_, h15_, h16_, h17_, h18_, h19_⟩
                              have n0_ : Aside0 (Kd.R k26 26 w48 w.heap.size (fun k_ => k_ ≠ gb356 ∧ k_ ≠ gb373 ∧ k_ ≠ gb374) (.slice (some ad366) x7_2.length co42) x7_2) := ⟨h0_⟩
                              have n1_ : Aside0 (w48.heap[gb356]? = some (.cells #[.int .i64 x357000_2, .int .i64 x357001_2] 26 (0, 0))) := ⟨h1_⟩
                              have n2_ : Aside0 (w48.heap[gb362]? = some (.cells #[.int .i64 ((rd_T57 l1 x25_2).f0), .bool ((rd_T57 l1 x25_2).f1), .int .i64 ((rd_T57 l1 x25_2).f2)] 57 (0, 0))) := ⟨h2_⟩
                              have n3_ : Aside0 (w48.heap[gb373]? = some (.cells #[.int .i64 0, .int .i64 0] 26 (0, 0))) := ⟨h3_⟩
                              have n4_ : Aside0 (w48.heap[gb374]? = some (.cells #[.int .i64 0, .int .i64 0] 26 (0, 0))) := ⟨h4_⟩
                              have n5_ : Aside0 (w.heap.size ≤ gb373) := ⟨h5_⟩
                              have n6_ : Aside0 (w.heap.size ≤ gb373) := ⟨h6_⟩
                              have n7_ : Aside0 (gb356 ≠ gb373) := ⟨h7_⟩
                              have n8_ : Aside0 (gb373 ≠ gb356) := ⟨h8_⟩
                              have n9_ : Aside0 (gb362 ≠ gb373) := ⟨h9_⟩
                              have n10_ : Aside0 (gb373 ≠ gb362) := ⟨h10_⟩
                              have n11_ : Aside0 (gb374 ≠ gb373) := ⟨h11_⟩
                              have n12_ : Aside0 (gb373 ≠ gb374) := ⟨h12_⟩
                              have n13_ : Aside0 (w.heap.size ≤ gb374) := ⟨h13_⟩
                              have n14_ : Aside0 (w.heap.size ≤ gb374) := ⟨h14_⟩
                              have n15_ : Aside0 (gb356 ≠ gb374) := ⟨h15_⟩
                              have n16_ : Aside0 (gb374 ≠ gb356) := ⟨h16_⟩
                              have n17_ : Aside0 (gb362 ≠ gb374) := ⟨h17_⟩
                              have n18_ : Aside0 (gb374 ≠ gb362) := ⟨h18_⟩
                              have n19_ : Aside0 (Below w.heap.size w w48) := ⟨h19_⟩
                              clear HO_7
                              clear BK356
                              clear BK362
                              clear HB
                              clear h0_ h1_ h2_ h3_ h4_ h5_ h6_ h7_ h8_ h9_ h10_ h11_ h12_ h13_ h14_ h15_ h16_ h17_ h18_ h19_
                              have HO_7 := n0_
                              have BK356 := n1_
                              have BK362 := n2_
                              have BK373 := n3_
                              have BK374 := n4_
                              have GW373 := n5_
                              have GE373 := n6_
                              have NB356_373 := n7_
                              have NB373_356 := n8_
                              have NB362_373 := n9_
                              have NB373_362 := n10_
                              have NB374_373 := n11_
                              have NB373_374 := n12_
                              have GW374 := n13_
                              have GE374 := n14_
                              have NB356_374 := n15_
                              have NB374_356 := n16_
                              have NB362_374 := n17_
                              have NB374_362 := n18_
                              have HB := n19_
                              clear n0_ n1_ n2_ n3_ n4_ n5_ n6_ n7_ n8_ n9_ n10_ n11_ n12_ n13_ n14_ n15_ n16_ n17_ n18_ n19_
                              have hHeld : w48.cell? ⟨gb362, 0, none⟩ = some (.int .i64 ((rd_T57 l1 x25_2).f0)) ∧ w48.cell? ⟨gb362, 1, none⟩ = some (.bool ((rd_T57 l1 x25_2).f1)) ∧ w48.cell? ⟨gb362, 2, none⟩ = some (.int .i64 ((rd_T57 l1 x25_2).f2)) ∧ w48.cell? (ad366.add ((((rd_T57 l1 x25_2).f0)).toNat * 2)) = some (.int .i64 ((rd_T26 x7_2 ((rd_T57 l1 x25_2).f0)).f0)) ∧ w48.cell? ⟨(ad366.add ((((rd_T57 l1 x25_2).f0)).toNat * 2)).block, (ad366.add ((((rd_T57 l1 x25_2).f0)).toNat * 2)).off + 1, none⟩ = some (.int .i64 ((rd_T26 x7_2 ((rd_T57 l1 x25_2).f0)).f1)) := hS_
                              refine norm_ (a' := ?_) ?_ ?_
                              rotate_left
                              · simp only [putAll, Act.put, List.setIfInBounds_toArray, List.set_cons_zero, List.set_cons_succ]
                                rfl
                              refine one_ (i := 15) (N := none) #[true, true, true, true, true, true, true, true, true, true, true, true, true, true, true, true, false] rfl rfl (one_of HT_.out (by kernel_rfl)) (by decide) (fun K hK => ?_)
                              have hs49 : w48.cell? ⟨gb373, 0, none⟩ = some (.int .i64 0) := (blk_cell BK373.out 0).trans rfl
                              have hfs49 := blk_frozen BK373.out 0
                              have hns49_0 := NB356_373.out
                              have hns49_1 := NB362_373.out
                              have hns49_3 := NB374_373.out
                              have hms49_0 := NB373_356.out
                              have hms49_1 := NB373_362.out
                              have hms49_3 := NB373_374.out
                              have hs50 : w48.cell? ⟨gb373, 1, none⟩ = some (.int .i64 0) := (blk_cell BK373.out 1).trans rfl
                              have hfs50 := blk_frozen BK373.out 1
                              have hns50_0 := NB356_373.out
                              have hns50_1 := NB362_373.out
                              have hns50_3 := NB374_373.out
                              have hms50_0 := NB373_356.out
                              have hms50_1 := NB373_362.out
                              have hms50_3 := NB373_374.out
                              refine skip_ (w1 := ?_) (by rfl) rfl ?_ ?_
                              rotate_left
                              · go_simp
                                rfl
                              refine hK.out _ _ ⟨((cell_far (p := ⟨gb373, _, none⟩) NB362_373.out _).trans (((cell_far (p := ⟨gb373, _, none⟩) NB362_373.out _).trans (hHeld.1)))), ((cell_far (p := ⟨gb373, _, none⟩) NB362_373.out _).trans (((cell_far (p := ⟨gb373, _, none⟩) NB362_373.out _).trans (hHeld.2.1)))), ((cell_far (p := ⟨gb373, _, none⟩) NB362_373.out _).trans (((cell_far (p := ⟨gb373, _, none⟩) NB362_373.out _).trans (hHeld.2.2.1)))), ((cell_far (p := ⟨gb373, _, none⟩) (by first | exact Kd.own_blk (Kd.R_away HO_7.out (fun _ hk => hk.2.1)) | (rw [add_block]; exact Kd.own_blk (Kd.R_away HO_7.out (fun _ hk => hk.2.1))) | (show (Addr.add _ _).block ≠ _; rw [add_block]; exact Kd.own_blk (Kd.R_away HO_7.out (fun _ hk => hk.2.1))) | (dsimp only; exact Kd.own_blk (Kd.R_away HO_7.out (fun _ hk => hk.2.1)))) _).trans (((cell_far (p := ⟨gb373, _, none⟩) (by first | exact Kd.own_blk (Kd.R_away HO_7.out (fun _ hk => hk.2.1)) | (rw [add_block]; exact Kd.own_blk (Kd.R_away HO_7.out (fun _ hk => hk.2.1))) | (show (Addr.add _ _).block ≠ _; rw [add_block]; exact Kd.own_blk (Kd.R_away HO_7.out (fun _ hk => hk.2.1))) | (dsimp only; exact Kd.own_blk (Kd.R_away HO_7.out (fun _ hk => hk.2.1)))) _).trans (hHeld.2.2.2.1)))), ((cell_far (p := ⟨gb373, _, none⟩) (by first | exact Kd.own_blk (Kd.R_away HO_7.out (fun _ hk => hk.2.1)) | (rw [add_block]; exact Kd.own_blk (Kd.R_away HO_7.out (fun _ hk => hk.2.1))) | (show (Addr.add _ _).block ≠ _; rw [add_block]; exact Kd.own_blk (Kd.R_away HO_7.out (fun _ hk => hk.2.1))) | (dsimp only; exact Kd.own_blk (Kd.R_away HO_7.out (fun _ hk => hk.2.1)))) _).trans (((cell_far (p := ⟨gb373, _, none⟩) (by first | exact Kd.own_blk (Kd.R_away HO_7.out (fun _ hk => hk.2.1)) | (rw [add_block]; exact Kd.own_blk (Kd.R_away HO_7.out (fun _ hk => hk.2.1))) | (show (Addr.add _ _).block ≠ _; rw [add_block]; exact Kd.own_blk (Kd.R_away HO_7.out (fun _ hk => hk.2.1))) | (dsimp only; exact Kd.own_blk (Kd.R_away HO_7.out (fun _ hk => hk.2.1)))) _).trans (hHeld.2.2.2.2))))⟩ (fun hHeld => ?_)
                              clear hK K
                              refine one_ (i := 16) (N := none) #[true, true, true, true, true, true, true, true, true, true, true, true, true, true, true, true, true] rfl rfl (one_of HT_.out (by kernel_rfl)) (by decide) (fun K hK => ?_)
                              have hs51 : w48.cell? ⟨gb374, 0, none⟩ = some (.int .i64 0) := (blk_cell BK374.out 0).trans rfl
                              have hfs51 := blk_frozen BK374.out 0
                              have hns51_0 := NB356_374.out
                              have hns51_1 := NB362_374.out
                              have hns51_2 := NB373_374.out
                              have hms51_0 := NB374_356.out
                              have hms51_1 := NB374_362.out
                              have hms51_2 := NB374_373.out
                              have hs52 : w48.cell? ⟨gb374, 1, none⟩ = some (.int .i64 0) := (blk_cell BK374.out 1).trans rfl
                              have hfs52 := blk_frozen BK374.out 1
                              have hns52_0 := NB356_374.out
                              have hns52_1 := NB362_374.out
                              have hns52_2 := NB373_374.out
                              have hms52_0 := NB374_356.out
                              have hms52_1 := NB374_362.out
                              have hms52_2 := NB374_373.out
                              refine skip_ (w1 := ?_) (by rfl) rfl ?_ ?_
                              rotate_left
                              · go_simp
                                rfl
                              refine hK.out _ _ ⟨((cell_far (p := ⟨gb374, _, none⟩) NB362_374.out _).trans (((cell_far (p := ⟨gb374, _, none⟩) NB362_374.out _).trans (hHeld.1)))), ((cell_far (p := ⟨gb374, _, none⟩) NB362_374.out _).trans (((cell_far (p := ⟨gb374, _, none⟩) NB362_374.out _).trans (hHeld.2.1)))), ((cell_far (p := ⟨gb374, _, none⟩) NB362_374.out _).trans (((cell_far (p := ⟨gb374, _, none⟩) NB362_374.out _).trans (hHeld.2.2.1)))), ((cell_far (p := ⟨gb374, _, none⟩) (by first | exact Kd.own_blk (Kd.R_away HO_7.out (fun _ hk => hk.2.2)) | (rw [add_block]; exact Kd.own_blk (Kd.R_away HO_7.out (fun _ hk => hk.2.2))) | (show (Addr.add _ _).block ≠ _; rw [add_block]; exact Kd.own_blk (Kd.R_away HO_7.out (fun _ hk => hk.2.2))) | (dsimp only; exact Kd.own_blk (Kd.R_away HO_7.out (fun _ hk => hk.2.2)))) _).trans (((cell_far (p := ⟨gb374, _, none⟩) (by first | exact Kd.own_blk (Kd.R_away HO_7.out (fun _ hk => hk.2.2)) | (rw [add_block]; exact Kd.own_blk (Kd.R_away HO_7.out (fun _ hk => hk.2.2))) | (show (Addr.add _ _).block ≠ _; rw [add_block]; exact Kd.own_blk (Kd.R_away HO_7.out (fun _ hk => hk.2.2))) | (dsimp only; exact Kd.own_blk (Kd.R_away HO_7.out (fun _ hk => hk.2.2)))) _).trans (hHeld.2.2.2.1)))), ((cell_far (p := ⟨gb374, _, none⟩) (by first | exact Kd.own_blk (Kd.R_away HO_7.out (fun _ hk => hk.2.2)) | (rw [add_block]; exact Kd.own_blk (Kd.R_away HO_7.out (fun _ hk => hk.2.2))) | (show (Addr.add _ _).block ≠ _; rw [add_block]; exact Kd.own_blk (Kd.R_away HO_7.out (fun _ hk => hk.2.2))) | (dsimp only; exact Kd.own_blk (Kd.R_away HO_7.out (fun _ hk => hk.2.2)))) _).trans (((cell_far (p := ⟨gb374, _, none⟩) (by first | exact Kd.own_blk (Kd.R_away HO_7.out (fun _ hk => hk.2.2)) | (rw [add_block]; exact Kd.own_blk (Kd.R_away HO_7.out (fun _ hk => hk.2.2))) | (show (Addr.add _ _).block ≠ _; rw [add_block]; exact Kd.own_blk (Kd.R_away HO_7.out (fun _ hk => hk.2.2))) | (dsimp only; exact Kd.own_blk (Kd.R_away HO_7.out (fun _ hk => hk.2.2)))) _).trans (hHeld.2.2.2.2))))⟩ (fun hHeld => ?_)
                              clear hK K
                              refine done_ (done_of HT_.out (by kernel_rfl)) ?_
                              have n0_ : Aside0 (Kd.R k26 26 ((((w48.setCell ⟨gb373, 0, none⟩ (.int .i64 t369)).setCell ⟨gb373, 1, none⟩ (.int .i64 t370)).setCell ⟨gb374, 0, none⟩ (.int .i64 t371)).setCell ⟨gb374, 1, none⟩ (.int .i64 t372)) w.heap.size (fun k_ => k_ ≠ gb356 ∧ k_ ≠ gb373 ∧ k_ ≠ gb374) (.slice (some ad366) x7_2.length co42) x7_2) := ⟨by (with_reducible repeat (first | apply Kd.R_alloc | apply Kd.R_drewN | apply Kd.R_drew)); exact Kd.R_mono (Kd.R_far (p := ⟨gb374, 1, none⟩) (Kd.R_far (p := ⟨gb374, 0, none⟩) (Kd.R_far (p := ⟨gb373, 1, none⟩) (Kd.R_far (p := ⟨gb373, 0, none⟩) (Kd.R_mono (Kd.R_mono HO_7.out (fun k_ hk => (⟨hk, hk.2.1⟩ : _ ∧ k_ ≠ gb373))) (fun k_ hk => (⟨hk, hk.1.2.2⟩ : _ ∧ k_ ≠ gb374))) (fun _ hk => hk.1.2) (.int .i64 t369)) (fun _ hk => hk.1.2) (.int .i64 t370)) (fun _ hk => hk.2) (.int .i64 t371)) (fun _ hk => hk.2) (.int .i64 t372)) (fun _ hk => ⟨hk.1.1.1, ⟨hk.1.1.2.1, hk.1.1.2.2⟩⟩)⟩
                              have n1_ : Aside0 (((((w48.setCell ⟨gb373, 0, none⟩ (.int .i64 t369)).setCell ⟨gb373, 1, none⟩ (.int .i64 t370)).setCell ⟨gb374, 0, none⟩ (.int .i64 t371)).setCell ⟨gb374, 1, none⟩ (.int .i64 t372)).heap[gb356]? = some (.cells #[.int .i64 x357000_2, .int .i64 x357001_2] 26 (0, 0))) := ⟨by (with_reducible repeat (first | refine blk_drewN ?_ _ | refine blk_drew ?_ | refine blk_alloc ?_ _)); refine blk_far ?_ NB356_374.out _; (with_reducible repeat (first | refine blk_drewN ?_ _ | refine blk_drew ?_ | refine blk_alloc ?_ _)); refine blk_far ?_ NB356_374.out _; (with_reducible repeat (first | refine blk_drewN ?_ _ | refine blk_drew ?_ | refine blk_alloc ?_ _)); refine blk_far ?_ NB356_373.out _; (with_reducible repeat (first | refine blk_drewN ?_ _ | refine blk_drew ?_ | refine blk_alloc ?_ _)); refine blk_far ?_ NB356_373.out _; (with_reducible repeat (first | refine blk_drewN ?_ _ | refine blk_drew ?_ | refine blk_alloc ?_ _)); exact BK356.out⟩
                              have n2_ : Aside0 (((((w48.setCell ⟨gb373, 0, none⟩ (.int .i64 t369)).setCell ⟨gb373, 1, none⟩ (.int .i64 t370)).setCell ⟨gb374, 0, none⟩ (.int .i64 t371)).setCell ⟨gb374, 1, none⟩ (.int .i64 t372)).heap[gb362]? = some (.cells #[.int .i64 ((rd_T57 l1 x25_2).f0), .bool ((rd_T57 l1 x25_2).f1), .int .i64 ((rd_T57 l1 x25_2).f2)] 57 (0, 0))) := ⟨by (with_reducible repeat (first | refine blk_drewN ?_ _ | refine blk_drew ?_ | refine blk_alloc ?_ _)); refine blk_far ?_ NB362_374.out _; (with_reducible repeat (first | refine blk_drewN ?_ _ | refine blk_drew ?_ | refine blk_alloc ?_ _)); refine blk_far ?_ NB362_374.out _; (with_reducible repeat (first | refine blk_drewN ?_ _ | refine blk_drew ?_ | refine blk_alloc ?_ _)); refine blk_far ?_ NB362_373.out _; (with_reducible repeat (first | refine blk_drewN ?_ _ | refine blk_drew ?_ | refine blk_alloc ?_ _)); refine blk_far ?_ NB362_373.out _; (with_reducible repeat (first | refine blk_drewN ?_ _ | refine blk_drew ?_ | refine blk_alloc ?_ _)); exact BK362.out⟩
                              have n3_ : Aside0 (((((w48.setCell ⟨gb373, 0, none⟩ (.int .i64 t369)).setCell ⟨gb373, 1, none⟩ (.int .i64 t370)).setCell ⟨gb374, 0, none⟩ (.int .i64 t371)).setCell ⟨gb374, 1, none⟩ (.int .i64 t372)).heap[gb373]? = some (.cells #[.int .i64 t369, .int .i64 t370] 26 (0, 0))) := ⟨by (with_reducible repeat (first | refine blk_drewN ?_ _ | refine blk_drew ?_ | refine blk_alloc ?_ _)); refine blk_far ?_ NB373_374.out _; (with_reducible repeat (first | refine blk_drewN ?_ _ | refine blk_drew ?_ | refine blk_alloc ?_ _)); refine blk_far ?_ NB373_374.out _; (with_reducible repeat (first | refine blk_drewN ?_ _ | refine blk_drew ?_ | refine blk_alloc ?_ _)); refine blk_put (cs := #[.int .i64 t369, .int .i64 0]) ?_ 1 _ rfl; (with_reducible repeat (first | refine blk_drewN ?_ _ | refine blk_drew ?_ | refine blk_alloc ?_ _)); refine blk_put (cs := #[.int .i64 0, .int .i64 0]) ?_ 0 _ rfl; (with_reducible repeat (first | refine blk_drewN ?_ _ | refine blk_drew ?_ | refine blk_alloc ?_ _)); exact BK373.out⟩
                              have n4_ : Aside0 (((((w48.setCell ⟨gb373, 0, none⟩ (.int .i64 t369)).setCell ⟨gb373, 1, none⟩ (.int .i64 t370)).setCell ⟨gb374, 0, none⟩ (.int .i64 t371)).setCell ⟨gb374, 1, none⟩ (.int .i64 t372)).heap[gb374]? = some (.cells #[.int .i64 t371, .int .i64 t372] 26 (0, 0))) := ⟨by (with_reducible repeat (first | refine blk_drewN ?_ _ | refine blk_drew ?_ | refine blk_alloc ?_ _)); refine blk_put (cs := #[.int .i64 t371, .int .i64 0]) ?_ 1 _ rfl; (with_reducible repeat (first | refine blk_drewN ?_ _ | refine blk_drew ?_ | refine blk_alloc ?_ _)); refine blk_put (cs := #[.int .i64 0, .int .i64 0]) ?_ 0 _ rfl; (with_reducible repeat (first | refine blk_drewN ?_ _ | refine blk_drew ?_ | refine blk_alloc ?_ _)); refine blk_far ?_ NB374_373.out _; (with_reducible repeat (first | refine blk_drewN ?_ _ | refine blk_drew ?_ | refine blk_alloc ?_ _)); refine blk_far ?_ NB374_373.out _; (with_reducible repeat (first | refine blk_drewN ?_ _ | refine blk_drew ?_ | refine blk_alloc ?_ _)); exact BK374.out⟩
                              have n5_ : Aside0 (Below w.heap.size w ((((w48.setCell ⟨gb373, 0, none⟩ (.int .i64 t369)).setCell ⟨gb373, 1, none⟩ (.int .i64 t370)).setCell ⟨gb374, 0, none⟩ (.int .i64 t371)).setCell ⟨gb374, 1, none⟩ (.int .i64 t372))) := ⟨by repeat (first | (with_reducible first | exact HB.out | apply below_alloc | apply pw_below_drewN | apply below_drew1 | refine below_set ?_ GE356.out | refine below_set ?_ GE362.out | refine below_set ?_ GE373.out | refine below_set ?_ GE374.out) | exact HB.out)⟩
                              (try clear HO_7)
                              (try clear BK356)
                              (try clear BK362)
                              (try clear BK373)
                              (try clear BK374)
                              (try clear HB)
                              generalize ((((w48.setCell ⟨gb373, 0, none⟩ (.int .i64 t369)).setCell ⟨gb373, 1, none⟩ (.int .i64 t370)).setCell ⟨gb374, 0, none⟩ (.int .i64 t371)).setCell ⟨gb374, 1, none⟩ (.int .i64 t372)) = w53 at n0_ n1_ n2_ n3_ n4_ n5_ ⊢
                              have HO_7 := n0_
                              have BK356 := n1_
                              have BK362 := n2_
                              have BK373 := n3_
                              have BK374 := n4_
                              have HB := n5_
                              clear n0_ n1_ n2_ n3_ n4_ n5_
                              have hnb54 := NB362_356.out
                              have hnc54 := NB356_362.out
                              have hnb55 := NB362_373.out
                              have hnc55 := NB373_362.out
                              have hnb56 := NB362_374.out
                              have hnc56 := NB374_362.out
                              have hcz57_0 : w53.cell? ⟨gb362, 0, none⟩ = some (.int .i64 ((rd_T57 l1 x25_2).f0)) := (blk_cell BK362.out 0).trans rfl
                              have hcz57_1 : w53.cell? ⟨gb362, 1, none⟩ = some (.bool ((rd_T57 l1 x25_2).f1)) := (blk_cell BK362.out 1).trans rfl
                              have hcz57_2 : w53.cell? ⟨gb362, 2, none⟩ = some (.int .i64 ((rd_T57 l1 x25_2).f2)) := (blk_cell BK362.out 2).trans rfl
                              have hfz57_0 := blk_frozen BK362.out 0
                              have hfz57_1 := blk_frozen BK362.out 1
                              have hfz57_2 := blk_frozen BK362.out 2
                              have hnb58 := NB373_356.out
                              have hnc58 := NB356_373.out
                              have hnb59 := NB373_374.out
                              have hnc59 := NB374_373.out
                              have hcz60_0 : w53.cell? ⟨gb373, 0, none⟩ = some (.int .i64 t369) := (blk_cell BK373.out 0).trans rfl
                              have hcz60_1 : w53.cell? ⟨gb373, 1, none⟩ = some (.int .i64 t370) := (blk_cell BK373.out 1).trans rfl
                              have hfz60_0 := blk_frozen BK373.out 0
                              have hfz60_1 := blk_frozen BK373.out 1
                              have p39 : 0 ≤ (((rd_T57 l1 x25_2).f0) : Int) := of_decide_eq_true (by first | (with_reducible assumption) | assumption)
                              have q39 : (((rd_T57 l1 x25_2).f0) : Int) < ((x7_2.length : Int) : Int) := of_decide_eq_true (by first | (with_reducible assumption) | assumption)
                              obtain ⟨go39, co39, eo39, gb39, gl39, cl39, HG39⟩ := Kd.R_form HO_7.out (by omega)
                              (first | cases eo39 | (injection eo39 with ea_ en_ ec_; (first | subst ea_ | (injection ea_ with ea_; subst ea_)); subst ec_; clear en_))
                              have GB39 := Aside0.mk gb39
                              have GG39 := Aside0.mk HG39
                              clear gb39 gl39 HG39
                              (first | simp only [add_plain] at hx366_0 | skip)
                              (first | simp only [add_plain] at hx366_1 | skip)
                              (first | simp only [add_plain] at hx368_0 | skip)
                              (first | simp only [add_plain] at hx368_1 | skip)
                              obtain ⟨ce39, hcl39, hM39, hcc39, hfr39⟩ := Kd.R_elem HO_7.out z26 (((rd_T57 l1 x25_2).f0) : Int) p39 q39
                              obtain rfl := k26_openM hM39
                              have hx39_0 : w53.cell? ⟨go39, (((rd_T57 l1 x25_2).f0) : Int).toNat * 2, none⟩ = some (.int .i64 ((rd_T26 x7_2 ((rd_T57 l1 x25_2).f0)).f0)) := hcc39 0 _ rfl
                              have hx39_1 : w53.cell? ⟨go39, (((rd_T57 l1 x25_2).f0) : Int).toNat * 2 + 1, none⟩ = some (.int .i64 ((rd_T26 x7_2 ((rd_T57 l1 x25_2).f0)).f1)) := hcc39 1 _ rfl
                              have hf39_0 : w53.frozen? ⟨go39, (((rd_T57 l1 x25_2).f0) : Int).toNat * 2, none⟩ = false := hfr39 0
                              have hf39_1 : w53.frozen? ⟨go39, (((rd_T57 l1 x25_2).f0) : Int).toNat * 2 + 1, none⟩ = false := hfr39 1
                              clear hcl39 hcc39 hfr39 hM39
                              replace p39 := eq_true p39
                              replace q39 := eq_true q39
                              have HX61 := Aside0.mk (show Kd.R k26 26 w53 w.heap.size (fun k_ => k_ ≠ gb356 ∧ k_ ≠ gb373 ∧ k_ ≠ gb374) (.slice (some ⟨go39, 0, none⟩) x7_2.length co42) x7_2 from (by (with_reducible repeat (first | apply Kd.R_alloc | apply Kd.R_drewN | apply Kd.R_drew)); exact HO_7.out))
                              obtain ⟨ce61, hcl61, hM61, hcc61, hfr61⟩ := Kd.R_elem HX61.out z26 (((rd_T57 l1 x25_2).f0) : Int) (of_decide_eq_true (by first | (with_reducible assumption) | assumption)) (by have h_ : (((rd_T57 l1 x25_2).f0) : Int) < ((x7_2.length : Int) : Int) := of_decide_eq_true (by first | (with_reducible assumption) | assumption); first | exact h_ | (have e_ := (Kd.R_reads' HO_7.out).1; omega) | simpa using h_)
                              obtain rfl := k26_openM hM61
                              have HP61 := Kd.R_seg HX61.out (((rd_T57 l1 x25_2).f0) : Int) (of_decide_eq_true (by first | (with_reducible assumption) | assumption)) (by have h_ : (((rd_T57 l1 x25_2).f0) : Int) < ((x7_2.length : Int) : Int) := of_decide_eq_true (by first | (with_reducible assumption) | assumption); first | exact h_ | (have e_ := (Kd.R_reads' HO_7.out).1; omega) | simpa using h_) (seg := [.int .i64 t369, .int .i64 t370]) (j := 0) hcl61 hcc61 (show 2 ≤ 2 from by decide) (x' := (⟨t369, t370⟩ : S26)) (k26_mkM _ _ _ (⟨t369, t370⟩ : S26) ) (fun _ hk => hk)
                              have hx61_0 := hcc61 0 _ rfl
                              (try simp only [show (k26).sz = 2 from rfl, Nat.mul_one, Nat.add_zero] at hx61_0)
                              have hf61_0 := hfr61 0
                              (try simp only [show (k26).sz = 2 from rfl, Nat.mul_one, Nat.add_zero] at hf61_0)
                              have hx61_1 := hcc61 1 _ rfl
                              (try simp only [show (k26).sz = 2 from rfl, Nat.mul_one, Nat.add_zero] at hx61_1)
                              have hf61_1 := hfr61 1
                              (try simp only [show (k26).sz = 2 from rfl, Nat.mul_one, Nat.add_zero] at hf61_1)
                              clear hcl61 hcc61 hfr61 hM61
                              try go_wp2_with (first | ((with_reducible refine gate_store (t := 26) (p := 76) rfl ?_); refine store_event (t := 26) (p := 76) (v := ?vo_w62) (w1 := ((w53.setCell ⟨go39, (((rd_T57 l1 x25_2).f0) : Int).toNat * 2, none⟩ (.int .i64 t369)).setCell ⟨go39, (((rd_T57 l1 x25_2).f0) : Int).toNat * 2 + 1, none⟩ (.int .i64 t370))) ?hg ?ho ?hn ?hr ?_; (case ho => rfl); (case hg => rfl); (case hn => rfl); (case hr => first | (go_simp; done) | (go_simp; rfl)); intro w62 hw; have hg : w53.grownBy w62 (some go39) := (by rw [hw]; exact HP61.2); have hp_ : Kd.R k26 26 w62 w.heap.size (fun k_ => k_ ≠ gb356 ∧ k_ ≠ gb373 ∧ k_ ≠ gb374) (.slice (some ⟨go39, 0, none⟩) x7_2.length co42) y375 := (by rw [hw, Ny375.out]; exact HP61.1); clear HP61; have n0_ := Aside0.mk (hp_); have n1_ := Aside0.mk (blk_grown (g := gb356) (o := .cells #[.int .i64 x357000_2, .int .i64 x357001_2] 26 (0, 0)) (by (with_reducible repeat (first | refine blk_drewN ?_ _ | refine blk_drew ?_ | refine blk_alloc ?_ _)); exact BK356.out) hg (Kd.R_away HO_7.out (fun _ hk => hk.1))); have n2_ := Aside0.mk (blk_grown (g := gb362) (o := .cells #[.int .i64 ((rd_T57 l1 x25_2).f0), .bool ((rd_T57 l1 x25_2).f1), .int .i64 ((rd_T57 l1 x25_2).f2)] 57 (0, 0)) (by (with_reducible repeat (first | refine blk_drewN ?_ _ | refine blk_drew ?_ | refine blk_alloc ?_ _)); exact BK362.out) hg (Kd.R_ne HO_7.out BK362.out (by decide))); have n3_ := Aside0.mk (blk_grown (g := gb373) (o := .cells #[.int .i64 t369, .int .i64 t370] 26 (0, 0)) (by (with_reducible repeat (first | refine blk_drewN ?_ _ | refine blk_drew ?_ | refine blk_alloc ?_ _)); exact BK373.out) hg (Kd.R_away HO_7.out (fun _ hk => hk.2.1))); have n4_ := Aside0.mk (blk_grown (g := gb374) (o := .cells #[.int .i64 t371, .int .i64 t372] 26 (0, 0)) (by (with_reducible repeat (first | refine blk_drewN ?_ _ | refine blk_drew ?_ | refine blk_alloc ?_ _)); exact BK374.out) hg (Kd.R_away HO_7.out (fun _ hk => hk.2.2))); have n5_ := Aside0.mk ((by rw [hw]; exact below_set (below_set (HB.out) GB39.out) GB39.out : Below w.heap.size w w62)); clear HO_7; clear BK356; clear BK362; clear BK373; clear BK374; clear HB; have HO_7 := n0_; have BK356 := n1_; have BK362 := n2_; have BK373 := n3_; have BK374 := n4_; have HB := n5_; clear n0_ n1_ n2_ n3_ n4_ n5_; clear hg hw hp_; have hnb63 := NB374_356.out; have hnc63 := NB356_374.out; have hcz64_0 : w62.cell? ⟨gb374, 0, none⟩ = some (.int .i64 t371) := (blk_cell BK374.out 0).trans rfl; have hcz64_1 : w62.cell? ⟨gb374, 1, none⟩ = some (.int .i64 t372) := (blk_cell BK374.out 1).trans rfl; have hfz64_0 := blk_frozen BK374.out 0; have hfz64_1 := blk_frozen BK374.out 1) | ((with_reducible refine gate_builtin (b := .append) (xs := #[.tmp 77, .tmp 79]) rfl ?_); (try (refine gate_guard (by rfl) ?_; dsimp only)); at_builtin; refine Kd.R_append k26 (w0 := w) w.heap.size rfl (.tmp 77) (.tmp 79) 37 26 (.agg #[(.int .i64 0), (.int .i64 0)]) 16 rfl Try.underlying37 info26 rfl (by decide) (by omega) (.slice (some ⟨go39, 0, none⟩) x7_2.length co42) y375 (⟨t371, t372⟩ : S26) [.int .i64 t371, .int .i64 t372] (fun k_ => k_ ≠ gb356 ∧ k_ ≠ gb373 ∧ k_ ≠ gb374) (fun _ => False) rfl rfl ?aP (fun _ hk => hk.elim) ?aF ?aO ?aB ?aS ?aL ?_; (case aP => exact k26_mkM _ _ _ (⟨t371, t372⟩ : S26)); (case aB => exact (by repeat (first | (with_reducible first | exact HB.out | apply below_alloc | apply pw_below_drewN | apply below_drew1 | refine below_set ?_ GE356.out | refine below_set ?_ GE362.out | refine below_set ?_ GE373.out | refine below_set ?_ GE374.out) | exact HB.out))); (case aF => exact (fun k_ hk => ⟨Kd.freshB (g := gb356) (o := .cells #[.int .i64 x357000_2, .int .i64 x357001_2] 26 (0, 0)) (by (with_reducible repeat (first | refine blk_drewN ?_ _ | refine blk_drew ?_ | refine blk_alloc ?_ _)); exact BK356.out) k_ hk, Kd.freshB (g := gb373) (o := .cells #[.int .i64 t369, .int .i64 t370] 26 (0, 0)) (by (with_reducible repeat (first | refine blk_drewN ?_ _ | refine blk_drew ?_ | refine blk_alloc ?_ _)); exact BK373.out) k_ hk, Kd.freshB (g := gb374) (o := .cells #[.int .i64 t371, .int .i64 t372] 26 (0, 0)) (by (with_reducible repeat (first | refine blk_drewN ?_ _ | refine blk_drew ?_ | refine blk_alloc ?_ _)); exact BK374.out) k_ hk⟩)); (case aO => exact (by (with_reducible repeat (first | apply Kd.R_alloc | apply Kd.R_drewN | apply Kd.R_drew)); exact HO_7.out)); (case aS => exact (below_size (by repeat (first | (with_reducible first | exact HB.out | apply below_alloc | apply pw_below_drewN | apply below_drew1 | refine below_set ?_ GE356.out | refine below_set ?_ GE362.out | refine below_set ?_ GE373.out | refine below_set ?_ GE374.out) | exact HB.out)))); (case aL => have := LMc40.out; omega); intro v377 w65 ho hb hg hat; rw [← Ny376.out] at ho; have n0_ := Aside0.mk (blk_grown (g := gb356) (o := .cells #[.int .i64 x357000_2, .int .i64 x357001_2] 26 (0, 0)) (by (with_reducible repeat (first | refine blk_drewN ?_ _ | refine blk_drew ?_ | refine blk_alloc ?_ _)); exact BK356.out) hg (Kd.R_away HO_7.out (fun _ hk => hk.1))); have n1_ := Aside0.mk (blk_grown (g := gb362) (o := .cells #[.int .i64 ((rd_T57 l1 x25_2).f0), .bool ((rd_T57 l1 x25_2).f1), .int .i64 ((rd_T57 l1 x25_2).f2)] 57 (0, 0)) (by (with_reducible repeat (first | refine blk_drewN ?_ _ | refine blk_drew ?_ | refine blk_alloc ?_ _)); exact BK362.out) hg (Kd.R_ne HO_7.out BK362.out (by decide))); have n2_ := Aside0.mk (blk_grown (g := gb373) (o := .cells #[.int .i64 t369, .int .i64 t370] 26 (0, 0)) (by (with_reducible repeat (first | refine blk_drewN ?_ _ | refine blk_drew ?_ | refine blk_alloc ?_ _)); exact BK373.out) hg (Kd.R_away HO_7.out (fun _ hk => hk.2.1))); have n3_ := Aside0.mk (blk_grown (g := gb374) (o := .cells #[.int .i64 t371, .int .i64 t372] 26 (0, 0)) (by (with_reducible repeat (first | refine blk_drewN ?_ _ | refine blk_drew ?_ | refine blk_alloc ?_ _)); exact BK374.out) hg (Kd.R_away HO_7.out (fun _ hk => hk.2.2))); have n4_ := Aside0.mk (hb); have n5_ := Aside0.mk (ho); clear BK356; clear BK362; clear BK373; clear BK374; clear HB; clear HO_7; have BK356 := n0_; have BK362 := n1_; have BK373 := n2_; have BK374 := n3_; have HB := n4_; have HO378 := n5_; clear n0_ n1_ n2_ n3_ n4_ n5_; clear ho hb hg hat))
                              go_roundg kj17
                              case measure => have := HJ2.out; have := HK2.out; have := HJ17.out; omega
                              case rel => exact ⟨(y376), (wrap64 (x8_2 + t367)), (wrap64 (x25_2 + 1)), (x357000_2), (x357001_2), (by first | rfl | (simp; done) | (simp [*]; done)), (by first | rfl | (simp; done) | (simp [*]; done)), H', ⟨by have := HJ2.out; have := HK2.out; have := HJ17.out; omega⟩, ⟨by (with_reducible repeat (first | apply Kd.R_alloc | apply Kd.R_drewN | apply Kd.R_drew)); exact Kd.R_mono HO378.out (fun _ hk => hk.1)⟩, ⟨by (with_reducible repeat (first | refine blk_drewN ?_ _ | refine blk_drew ?_ | refine blk_alloc ?_ _)); exact BK356.out⟩, ⟨by repeat (first | (with_reducible first | exact HB.out | apply below_alloc | apply pw_below_drewN | apply below_drew1 | refine below_set ?_ GE356.out | refine below_set ?_ GE362.out | refine below_set ?_ GE373.out | refine below_set ?_ GE374.out) | exact HB.out)⟩⟩
                            · rw [if_neg c40] at H
                              exact absurd H (by simp)
                          · rw [if_neg c36] at H
                            exact absurd H (by simp)
                        · rw [if_neg c35] at H
                          exact absurd H (by simp)
                · rw [if_neg c17] at H
                  exact absurd H (by simp)
              · rw [if_neg c16] at H
                exact absurd H (by simp)
            · rw [if_neg c15] at H
              have c15b0 : decide (x25_2 < (l1.length : Int)) = false := decide_eq_false c15
              clear c15
              simp only [Option.some.injEq, Prod.mk.injEq] at H
              obtain ⟨rfl, rfl, rfl⟩ := H
              go_wp2
              go_ret3
              exact ⟨_, by first | rfl | (simp [errW_none, errW_some] <;> rfl) | (simp [*, errW_none, errW_some] <;> rfl), by (with_reducible repeat (first | apply Kd.R_alloc | apply Kd.R_drewN | apply Kd.R_drew)); exact Kd.R_mono HO_7.out (fun _ hk => trivial), by repeat (first | (with_reducible first | exact HB.out | apply below_alloc | apply pw_below_drewN | apply below_drew1 | refine below_set ?_ GE356.out) | exact HB.out)⟩

end Go.Proofs.Ytocpeikkaciecaa.P
