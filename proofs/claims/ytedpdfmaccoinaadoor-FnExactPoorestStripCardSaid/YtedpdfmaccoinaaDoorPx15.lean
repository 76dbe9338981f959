-- Written by a program of this session (pp.py, over the kit's print): not trusted, Lean checks it.
import Derived.Test.YtedpdfmaccoinaaDoorPx0
namespace Go.Proofs.YtedpdfmaccoinaaDoor.P
open Go.RowKit Go.Proofs.YtedpdfmaccoinaaDoorW.PrintWords Go.Proofs.YtedpdfmaccoinaaDoorW.PrintLast Go.Proofs.YtedpdfmaccoinaaDoorW.PrintMore
attribute [local go_sem] max2_int min2_int max_two min_two max_three min_three max_four min_four   -- for this text's walks alone
set_option linter.unusedVariables false
set_option linter.unusedSimpArgs false

/-! ### impl_nutsIn: function 41 -/
mutual
def impl_nutsIn.l0 : Nat → Int → List ByteArray → Int → Int → Int → Int → Int → Int → Option (Int)
  | 0, _, _, _, _, _, _, _, _ => none
  | k + 1, x5, x18, x19, x20, x134000, x134001, x134002, x134003 => if x20 < x19 then (if 0 ≤ x20 then (if x20 < (x18.length : Int) then (impl_nutsIn.l1 k x5 (rdOf ByteArray.empty x18 x20) x134000 x18 x19 x20 x134000 x134001 x134002 x134003) else (none)) else (none)) else (some x5)
def impl_nutsIn.l1 : Nat → Int → ByteArray → Int → List ByteArray → Int → Int → Int → Int → Int → Int → Option (Int)
  | 0, _, _, _, _, _, _, _, _, _, _ => none
  | k + 1, x5, x7, x8, x18, x19, x20, x134000, x134001, x134002, x134003 => if x8 < (wrap64 (x134000 + x134002)) then (if 0 ≤ x8 then (if x8 < (x7.size : Int) then (impl_nutsIn.l1 k (wrap64 (x5 + (((bt x7 x8) - 48) % 256))) x7 (wrap64 (x8 + 1)) x18 x19 x20 x134000 x134001 x134002 x134003) else (none)) else (none)) else (impl_nutsIn.l0 k x5 x18 x19 (wrap64 (x20 + 1)) x134000 x134001 x134002 x134003)
end
def impl_nutsIn.f (k : Nat) (l0 : List ByteArray) (a1_0 : Int) (a1_1 : Int) (a1_2 : Int) (a1_3 : Int) : Option (Int) := if 0 ≤ a1_1 then (if a1_1 ≤ (wrap64 (a1_1 + a1_3)) then (if (wrap64 (a1_1 + a1_3)) ≤ (l0.length : Int) then (impl_nutsIn.l0 k 0 ((l0.take ((wrap64 (a1_1 + a1_3)) : Int).toNat).drop (a1_1 : Int).toNat) (((l0.take ((wrap64 (a1_1 + a1_3)) : Int).toNat).drop (a1_1 : Int).toNat).length : Int) 0 a1_0 a1_1 a1_2 a1_3) else (none)) else (none)) else (none)
theorem impl_nutsIn.mono_l : ∀ k, (∀ y0 y1 y2 y3 y4 y5 y6 y7, LeO (impl_nutsIn.l0 k y0 y1 y2 y3 y4 y5 y6 y7) (impl_nutsIn.l0 (k + 1) y0 y1 y2 y3 y4 y5 y6 y7)) ∧ (∀ y0 y1 y2 y3 y4 y5 y6 y7 y8 y9, LeO (impl_nutsIn.l1 k y0 y1 y2 y3 y4 y5 y6 y7 y8 y9) (impl_nutsIn.l1 (k + 1) y0 y1 y2 y3 y4 y5 y6 y7 y8 y9))
  | 0 => ⟨fun _ _ _ _ _ _ _ _ r h => by simp [impl_nutsIn.l0] at h, fun _ _ _ _ _ _ _ _ _ _ r h => by simp [impl_nutsIn.l1] at h⟩
  | k + 1 => by
    obtain ⟨ih0, ih1⟩ := impl_nutsIn.mono_l k
    refine ⟨?_, ?_⟩
    · intro y0 y1 y2 y3 y4 y5 y6 y7
      unfold impl_nutsIn.l0
      repeat' first
      | (with_reducible exact ih0 _ _ _ _ _ _ _ _)
      | (with_reducible exact ih1 _ _ _ _ _ _ _ _ _ _)
      | (with_reducible exact LeO.refl _)
      | (with_reducible exact LeO.none _)
      | (with_reducible refine LeO.ite ?_ ?_)
      | (with_reducible refine LeO.bind ?_ (fun _ => ?_))
      | exact ih0 _ _ _ _ _ _ _ _
      | exact ih1 _ _ _ _ _ _ _ _ _ _
      | exact LeO.none _
      | refine LeO.ite ?_ ?_
      | refine LeO.bind ?_ (fun _ => ?_)
    · intro y0 y1 y2 y3 y4 y5 y6 y7 y8 y9
      unfold impl_nutsIn.l1
      repeat' first
      | (with_reducible exact ih0 _ _ _ _ _ _ _ _)
      | (with_reducible exact ih1 _ _ _ _ _ _ _ _ _ _)
      | (with_reducible exact LeO.refl _)
      | (with_reducible exact LeO.none _)
      | (with_reducible refine LeO.ite ?_ ?_)
      | (with_reducible refine LeO.bind ?_ (fun _ => ?_))
      | exact ih0 _ _ _ _ _ _ _ _
      | exact ih1 _ _ _ _ _ _ _ _ _ _
      | exact LeO.none _
      | refine LeO.ite ?_ ?_
      | refine LeO.bind ?_ (fun _ => ?_)
theorem impl_nutsIn.mono : ∀ a0 a1 a2 a3 a4 k, LeO (impl_nutsIn.f k a0 a1 a2 a3 a4) (impl_nutsIn.f (k + 1) a0 a1 a2 a3 a4) := by
  intro a0 a1 a2 a3 a4 k
  obtain ⟨ih0, ih1⟩ := impl_nutsIn.mono_l k
  unfold impl_nutsIn.f
  repeat' first
      | (with_reducible exact ih0 _ _ _ _ _ _ _ _)
      | (with_reducible exact ih1 _ _ _ _ _ _ _ _ _ _)
      | (with_reducible exact LeO.refl _)
      | (with_reducible exact LeO.none _)
      | (with_reducible refine LeO.ite ?_ ?_)
      | (with_reducible refine LeO.bind ?_ (fun _ => ?_))
      | exact ih0 _ _ _ _ _ _ _ _
      | exact ih1 _ _ _ _ _ _ _ _ _ _
      | exact LeO.none _
      | refine LeO.ite ?_ ?_
      | refine LeO.bind ?_ (fun _ => ?_)
set_option maxHeartbeats 8000000 in
set_option maxRecDepth 100000 in
theorem impl_nutsIn.calls (k : Nat) (A0 : Option Addr) (c0 : Nat) (l0 : List ByteArray) (a1_0 : Int) (a1_1 : Int) (a1_2 : Int) (a1_3 : Int) (r : Int) (w : World) (hr0 : Kd.C Kd.string w A0 l0.length l0) (hc0 : l0.length ≤ c0) (h : impl_nutsIn.f k l0 a1_0 a1_1 a1_2 a1_3 = some r) :
    Calls Tryd.prog 41 #[.slice A0 l0.length c0, .agg #[.int .i64 a1_0, .int .i64 a1_1, .int .i64 a1_2, .int .i64 a1_3]] w fun e w' => e = .returned (.int .i64 r) ∧ Below w.heap.size w w' := by
  have hu50 := Tryd.underlying50
  have HR0 := Aside0.mk hr0
  have HC0 := Aside0.mk hc0
  clear hr0 hc0
  have HB := Aside0.mk (Below.refl w.heap.size w)
  have H : (if 0 ≤ a1_1 then (if a1_1 ≤ (wrap64 (a1_1 + a1_3)) then (if (wrap64 (a1_1 + a1_3)) ≤ (l0.length : Int) then (impl_nutsIn.l0 k 0 ((l0.take ((wrap64 (a1_1 + a1_3)) : Int).toNat).drop (a1_1 : Int).toNat) (((l0.take ((wrap64 (a1_1 + a1_3)) : Int).toNat).drop (a1_1 : Int).toNat).length : Int) 0 a1_0 a1_1 a1_2 a1_3) else (none)) else (none)) else (none)) = some r := h
  clear h
  by_cases c3 : 0 ≤ a1_1
  · rw [if_pos c3] at H
    have c3b0 := eq_true c3
    have c3b1 : decide (0 ≤ a1_1) = true := decide_eq_true c3
    clear c3
    by_cases c4 : a1_1 ≤ (wrap64 (a1_1 + a1_3))
    · rw [if_pos c4] at H
      have c4b0 := eq_true c4
      have c4b1 : decide (a1_1 ≤ (wrap64 (a1_1 + a1_3))) = true := decide_eq_true c4
      by_cases c5 : (wrap64 (a1_1 + a1_3)) ≤ (l0.length : Int)
      · rw [if_pos c5] at H
        have c5b0 := eq_true c5
        have c5b1 : decide ((wrap64 (a1_1 + a1_3)) ≤ (l0.length : Int)) = true := decide_eq_true c5
        have H' := Aside0.mk H
        clear H
        have HLEN0 : ((l0.take ((wrap64 (a1_1 + a1_3)) : Int).toNat).drop (a1_1 : Int).toNat).length = ((wrap64 (a1_1 + a1_3)).toNat - a1_1.toNat : Nat) := by rw [List.length_drop, List.length_take, Nat.min_eq_left (by omega)]
        have HLEN := Aside0.mk HLEN0
        clear HLEN0
        go_enter Tryd.func41, Tryd.ntmps41
        go_wp2_with (first | ((with_reducible refine gate_dst (N := 3) rfl ?_); refine box_event ?hg (N := 3) ?hd (cs := #[.int .i64 a1_0, .int .i64 a1_1, .int .i64 a1_2, .int .i64 a1_3]) (t := 50) ?hr ?_; (case hd => rfl); (case hg => rfl); (case hr => first | (go_simp; done) | (go_simp; rfl)); intro gb133 hg w6 hbox hb; have n0_ := Aside0.mk (below_step (by repeat (first | (with_reducible first | exact HB.out | apply below_alloc | apply pw_below_drewN | apply below_drew1) | exact HB.out)) hb); have n1_ := Aside0.mk (hbox); have n2_ := Aside0.mk ((by rw [hg]; exact (below_size (by repeat (first | (with_reducible first | exact HB.out | apply below_alloc | apply pw_below_drewN | apply below_drew1) | exact HB.out))) : w.heap.size ≤ gb133)); have n3_ := Aside0.mk ((by rw [hg]; exact (below_size (by repeat (first | (with_reducible first | exact HB.out | apply below_alloc | apply pw_below_drewN | apply below_drew1) | exact HB.out))) : w.heap.size ≤ gb133)); clear HB; have HB := n0_; have BK133 := n1_; have GW133 := n2_; have GE133 := n3_; clear n0_ n1_ n2_ n3_; clear hb hbox hg; have hcz7_0 : w6.cell? ⟨gb133, 0, none⟩ = some (.int .i64 a1_0) := (blk_cell BK133.out 0).trans rfl; have hcz7_1 : w6.cell? ⟨gb133, 1, none⟩ = some (.int .i64 a1_1) := (blk_cell BK133.out 1).trans rfl; have hcz7_2 : w6.cell? ⟨gb133, 2, none⟩ = some (.int .i64 a1_2) := (blk_cell BK133.out 2).trans rfl; have hcz7_3 : w6.cell? ⟨gb133, 3, none⟩ = some (.int .i64 a1_3) := (blk_cell BK133.out 3).trans rfl; have hfz7_0 := blk_frozen BK133.out 0; have hfz7_1 := blk_frozen BK133.out 1; have hfz7_2 := blk_frozen BK133.out 2; have hfz7_3 := blk_frozen BK133.out 3; obtain ⟨i08, hi08, _, hsz8, _⟩ := info_parts info9; obtain ⟨A8, hcut8, hA8, hC8⟩ := print_mid_of (P := Tryd.prog) Value.string (⟨#[]⟩ : ByteArray) 22 9 .i64 .i64 Tryd.underlying22 hi08 hsz8 A0 c0 l0 a1_1 (wrap64 (a1_1 + a1_3)) (of_decide_eq_true (by first | (with_reducible assumption) | assumption)) (by first | omega | exact of_decide_eq_true (by first | (with_reducible assumption) | assumption)) (of_decide_eq_true (by first | (with_reducible assumption) | assumption)) HC0.out; have HR134 := Aside0.mk (Kd.C_of_reads (h1 := fun _ => rfl) (hA8 _ (Kd.reads_of_C HR0.out))); have HC134 := Aside0.mk hC8; clear hA8 hC8 hi08 hsz8))
        go_loopg [5, 20] k (fun kq v5 v20 w' => ∃ (x5_1 : Int) (x20_1 : Int), v5 = .int .i64 x5_1 ∧ v20 = .int .i64 x20_1 ∧ Aside0 (impl_nutsIn.l0 kq x5_1 ((l0.take ((wrap64 (a1_1 + a1_3)) : Int).toNat).drop (a1_1 : Int).toNat) (((l0.take ((wrap64 (a1_1 + a1_3)) : Int).toNat).drop (a1_1 : Int).toNat).length : Int) x20_1 a1_0 a1_1 a1_2 a1_3 = some r) ∧ Aside0 (kq ≤ k) ∧ Aside0 (w'.heap[gb133]? = some (.cells #[.int .i64 a1_0, .int .i64 a1_1, .int .i64 a1_2, .int .i64 a1_3] 50 (0, 0))) ∧ Aside0 (Below w.heap.size w w'))
        case atStart => exact ⟨(0), (0), (by first | rfl | (simp; done) | (simp [*]; done)), (by first | rfl | (simp; done) | (simp [*]; done)), H', ⟨Nat.le_refl _⟩, ⟨by (with_reducible repeat (first | refine blk_drewN ?_ _ | refine blk_drew ?_ | refine blk_alloc ?_ _)); exact BK133.out⟩, ⟨by repeat (first | (with_reducible first | exact HB.out | apply below_alloc | apply pw_below_drewN | apply below_drew1 | refine below_set ?_ GE133.out) | exact HB.out)⟩⟩
        case round =>
          clear H'
          try clear p2
          try clear c3
          try clear c3b0
          try clear c3b1
          try clear c4
          try clear c4b0
          try clear c4b1
          try clear c5
          try clear c5b0
          try clear c5b1
          try clear p6
          try clear hcz7_0
          try clear hcz7_1
          try clear hcz7_2
          try clear hcz7_3
          try clear hfz7_0
          try clear hfz7_1
          try clear hfz7_2
          try clear hfz7_3
          obtain ⟨x5_1, x20_1, rfl, rfl, HA, HK1, BK133, HB⟩ := hrel
          cases gk with
          | zero => exact absurd HA.out (by simp [impl_nutsIn.l0])
          | succ k1 =>
            have H := HA.out
            clear HA
            simp only [impl_nutsIn.l0] at H
            by_cases c9 : x20_1 < (((l0.take ((wrap64 (a1_1 + a1_3)) : Int).toNat).drop (a1_1 : Int).toNat).length : Int)
            · rw [if_pos c9] at H
              have c9b0 : decide (x20_1 < (((l0.take ((wrap64 (a1_1 + a1_3)) : Int).toNat).drop (a1_1 : Int).toNat).length : Int)) = true := decide_eq_true c9
              have c9b7 : decide (x20_1 < (((wrap64 (a1_1 + a1_3)).toNat - a1_1.toNat : Nat) : Int)) = true := by rw [← HLEN.out]; exact c9b0
              have c9b8 := eq_true (of_decide_eq_true c9b7)
              clear c9
              by_cases c10 : 0 ≤ x20_1
              · rw [if_pos c10] at H
                have c10b0 : decide (0 ≤ x20_1) = true := decide_eq_true c10
                clear c10
                by_cases c11 : x20_1 < (((l0.take ((wrap64 (a1_1 + a1_3)) : Int).toNat).drop (a1_1 : Int).toNat).length : Int)
                · rw [if_pos c11] at H
                  have c11b0 : decide (x20_1 < (((l0.take ((wrap64 (a1_1 + a1_3)) : Int).toNat).drop (a1_1 : Int).toNat).length : Int)) = true := decide_eq_true c11
                  have c11b7 : decide (x20_1 < (((wrap64 (a1_1 + a1_3)).toNat - a1_1.toNat : Nat) : Int)) = true := by rw [← HLEN.out]; exact c11b0
                  have c11b8 := eq_true (of_decide_eq_true c11b7)
                  clear c11
                  have H' := Aside0.mk H
                  clear H
                  have p135 : 0 ≤ (x20_1 : Int) := of_decide_eq_true (by first | (with_reducible assumption) | assumption)
                  have q135 : x20_1 < (((l0.take ((wrap64 (a1_1 + a1_3)) : Int).toNat).drop (a1_1 : Int).toNat).length : Int) := of_decide_eq_true (by first | (with_reducible assumption) | assumption)
                  obtain ⟨ad135, e135, hx135_0⟩ := Kd.at_string HR134.out x20_1 p135 q135
                  cases e135
                  replace hx135_0 := (HB.out.cell (World.block_lt_of_cell? w _ hx135_0)).trans hx135_0
                  replace p135 := eq_true p135
                  replace q135 := eq_true q135
                  have hcz12_0 : wr.cell? ⟨gb133, 0, none⟩ = some (.int .i64 a1_0) := (blk_cell BK133.out 0).trans rfl
                  have hcz12_1 : wr.cell? ⟨gb133, 1, none⟩ = some (.int .i64 a1_1) := (blk_cell BK133.out 1).trans rfl
                  have hcz12_2 : wr.cell? ⟨gb133, 2, none⟩ = some (.int .i64 a1_2) := (blk_cell BK133.out 2).trans rfl
                  have hcz12_3 : wr.cell? ⟨gb133, 3, none⟩ = some (.int .i64 a1_3) := (blk_cell BK133.out 3).trans rfl
                  have hfz12_0 := blk_frozen BK133.out 0
                  have hfz12_1 := blk_frozen BK133.out 1
                  have hfz12_2 := blk_frozen BK133.out 2
                  have hfz12_3 := blk_frozen BK133.out 3
                  go_wp2
                  go_loopg [5, 8] k1 (fun kq v5 v8 w' => ∃ (x5_2 : Int) (x8_2 : Int), v5 = .int .i64 x5_2 ∧ v8 = .int .i64 x8_2 ∧ Aside0 (impl_nutsIn.l1 kq x5_2 (rdOf ByteArray.empty ((l0.take ((wrap64 (a1_1 + a1_3)) : Int).toNat).drop (a1_1 : Int).toNat) x20_1) x8_2 ((l0.take ((wrap64 (a1_1 + a1_3)) : Int).toNat).drop (a1_1 : Int).toNat) (((l0.take ((wrap64 (a1_1 + a1_3)) : Int).toNat).drop (a1_1 : Int).toNat).length : Int) x20_1 a1_0 a1_1 a1_2 a1_3 = some r) ∧ Aside0 (kq ≤ k1) ∧ Aside0 (w'.heap[gb133]? = some (.cells #[.int .i64 a1_0, .int .i64 a1_1, .int .i64 a1_2, .int .i64 a1_3] 50 (0, 0))) ∧ Aside0 (Below w.heap.size w w'))
                  case atStart => exact ⟨(x5_1), (a1_0), (by first | rfl | (simp; done) | (simp [*]; done)), (by first | rfl | (simp; done) | (simp [*]; done)), H', ⟨Nat.le_refl _⟩, ⟨by (with_reducible repeat (first | refine blk_drewN ?_ _ | refine blk_drew ?_ | refine blk_alloc ?_ _)); exact BK133.out⟩, ⟨by repeat (first | (with_reducible first | exact HB.out | apply below_alloc | apply pw_below_drewN | apply below_drew1 | refine below_set ?_ GE133.out) | exact HB.out)⟩⟩
                  case round =>
                    clear H'
                    try clear c1
                    try clear p1
                    try clear q1
                    try clear hx1
                    try clear p2
                    try clear c3
                    try clear c3b0
                    try clear c3b1
                    try clear c4
                    try clear c4b0
                    try clear c4b1
                    try clear c5
                    try clear c5b0
                    try clear c5b1
                    try clear p6
                    try clear c9
                    try clear c9b0
                    try clear c10
                    try clear c10b0
                    try clear c11
                    try clear c11b0
                    try clear hcz12_0
                    try clear hcz12_1
                    try clear hcz12_2
                    try clear hcz12_3
                    try clear hcz7_0
                    try clear hcz7_1
                    try clear hcz7_2
                    try clear hcz7_3
                    try clear hfz12_0
                    try clear hfz12_1
                    try clear hfz12_2
                    try clear hfz12_3
                    try clear hfz7_0
                    try clear hfz7_1
                    try clear hfz7_2
                    try clear hfz7_3
                    try clear hx135_0
                    try clear p135
                    try clear p2
                    try clear p6
                    try clear q135
                    obtain ⟨x5_2, x8_2, rfl, rfl, HA, HK2, BK133, HB⟩ := hrel
                    cases gk with
                    | zero => exact absurd HA.out (by simp [impl_nutsIn.l1])
                    | succ k2 =>
                      have H := HA.out
                      clear HA
                      simp only [impl_nutsIn.l1] at H
                      by_cases c13 : x8_2 < (wrap64 (a1_0 + a1_2))
                      · rw [if_pos c13] at H
                        have c13b0 : decide (x8_2 < (wrap64 (a1_0 + a1_2))) = true := decide_eq_true c13
                        clear c13
                        by_cases c14 : 0 ≤ x8_2
                        · rw [if_pos c14] at H
                          have c14b0 : decide (0 ≤ x8_2) = true := decide_eq_true c14
                          clear c14
                          by_cases c15 : x8_2 < ((rdOf ByteArray.empty ((l0.take ((wrap64 (a1_1 + a1_3)) : Int).toNat).drop (a1_1 : Int).toNat) x20_1).size : Int)
                          · rw [if_pos c15] at H
                            have c15b0 : decide (x8_2 < ((rdOf ByteArray.empty ((l0.take ((wrap64 (a1_1 + a1_3)) : Int).toNat).drop (a1_1 : Int).toNat) x20_1).size : Int)) = true := decide_eq_true c15
                            clear c15
                            have H' := Aside0.mk H
                            clear H
                            have hcz17_0 : wr.cell? ⟨gb133, 0, none⟩ = some (.int .i64 a1_0) := (blk_cell BK133.out 0).trans rfl
                            have hcz17_1 : wr.cell? ⟨gb133, 1, none⟩ = some (.int .i64 a1_1) := (blk_cell BK133.out 1).trans rfl
                            have hcz17_2 : wr.cell? ⟨gb133, 2, none⟩ = some (.int .i64 a1_2) := (blk_cell BK133.out 2).trans rfl
                            have hcz17_3 : wr.cell? ⟨gb133, 3, none⟩ = some (.int .i64 a1_3) := (blk_cell BK133.out 3).trans rfl
                            have hfz17_0 := blk_frozen BK133.out 0
                            have hfz17_1 := blk_frozen BK133.out 1
                            have hfz17_2 := blk_frozen BK133.out 2
                            have hfz17_3 := blk_frozen BK133.out 3
                            have p16 : 0 ≤ (x8_2 : Int) := of_decide_eq_true (by first | (with_reducible assumption) | assumption)
                            have q16 : x8_2 < ((rdOf ByteArray.empty ((l0.take ((wrap64 (a1_1 + a1_3)) : Int).toNat).drop (a1_1 : Int).toNat) x20_1).size : Int) := of_decide_eq_true (by first | (with_reducible assumption) | assumption)
                            have hx16 := bt_at (rdOf ByteArray.empty ((l0.take ((wrap64 (a1_1 + a1_3)) : Int).toNat).drop (a1_1 : Int).toNat) x20_1) x8_2
                            replace p16 := eq_true p16
                            replace q16 := eq_true q16
                            go_wp2
                            go_roundg k2
                            case measure => have := HK1.out; have := HK2.out; omega
                            case rel => exact ⟨(wrap64 (x5_2 + (((bt (rdOf ByteArray.empty ((l0.take ((wrap64 (a1_1 + a1_3)) : Int).toNat).drop (a1_1 : Int).toNat) x20_1) x8_2) - 48) % 256))), (wrap64 (x8_2 + 1)), (by first | rfl | (simp; done) | (simp [*]; done)), (by first | rfl | (simp; done) | (simp [*]; done)), H', ⟨by have := HK1.out; have := HK2.out; omega⟩, ⟨by (with_reducible repeat (first | refine blk_drewN ?_ _ | refine blk_drew ?_ | refine blk_alloc ?_ _)); exact BK133.out⟩, ⟨by repeat (first | (with_reducible first | exact HB.out | apply below_alloc | apply pw_below_drewN | apply below_drew1 | refine below_set ?_ GE133.out) | exact HB.out)⟩⟩
                          · rw [if_neg c15] at H
                            exact absurd H (by simp)
                        · rw [if_neg c14] at H
                          exact absurd H (by simp)
                      · rw [if_neg c13] at H
                        have c13b0 : decide (x8_2 < (wrap64 (a1_0 + a1_2))) = false := decide_eq_false c13
                        clear c13
                        have H' := Aside0.mk H
                        clear H
                        have hcz18_0 : wr.cell? ⟨gb133, 0, none⟩ = some (.int .i64 a1_0) := (blk_cell BK133.out 0).trans rfl
                        have hcz18_1 : wr.cell? ⟨gb133, 1, none⟩ = some (.int .i64 a1_1) := (blk_cell BK133.out 1).trans rfl
                        have hcz18_2 : wr.cell? ⟨gb133, 2, none⟩ = some (.int .i64 a1_2) := (blk_cell BK133.out 2).trans rfl
                        have hcz18_3 : wr.cell? ⟨gb133, 3, none⟩ = some (.int .i64 a1_3) := (blk_cell BK133.out 3).trans rfl
                        have hfz18_0 := blk_frozen BK133.out 0
                        have hfz18_1 := blk_frozen BK133.out 1
                        have hfz18_2 := blk_frozen BK133.out 2
                        have hfz18_3 := blk_frozen BK133.out 3
                        go_wp2
                        go_roundg k2
                        case measure => have := HK1.out; have := HK2.out; omega
                        case rel => exact ⟨(x5_2), (wrap64 (x20_1 + 1)), (by first | rfl | (simp; done) | (simp [*]; done)), (by first | rfl | (simp; done) | (simp [*]; done)), H', ⟨by have := HK1.out; have := HK2.out; omega⟩, ⟨by (with_reducible repeat (first | refine blk_drewN ?_ _ | refine blk_drew ?_ | refine blk_alloc ?_ _)); exact BK133.out⟩, ⟨by repeat (first | (with_reducible first | exact HB.out | apply below_alloc | apply pw_below_drewN | apply below_drew1 | refine below_set ?_ GE133.out) | exact HB.out)⟩⟩
                · rw [if_neg c11] at H
                  exact absurd H (by simp)
              · rw [if_neg c10] at H
                exact absurd H (by simp)
            · rw [if_neg c9] at H
              have c9b0 : decide (x20_1 < (((l0.take ((wrap64 (a1_1 + a1_3)) : Int).toNat).drop (a1_1 : Int).toNat).length : Int)) = false := decide_eq_false c9
              have c9b7 : decide (x20_1 < (((wrap64 (a1_1 + a1_3)).toNat - a1_1.toNat : Nat) : Int)) = false := by rw [← HLEN.out]; exact c9b0
              clear c9
              obtain rfl := Option.some.inj H
              go_wp2
              go_ret
              exact ⟨by first | rfl | (simp [errW_none, errW_some] <;> rfl) | (simp [*, errW_none, errW_some] <;> rfl), by repeat (first | (with_reducible first | exact HB.out | apply below_alloc | apply pw_below_drewN | apply below_drew1 | refine below_set ?_ GE133.out) | exact HB.out)⟩
      · rw [if_neg c5] at H
        exact absurd H (by simp)
    · rw [if_neg c4] at H
      exact absurd H (by simp)
  · rw [if_neg c3] at H
    exact absurd H (by simp)

end Go.Proofs.YtedpdfmaccoinaaDoor.P
