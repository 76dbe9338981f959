/- spec.ntTurn: what the call comes to. Conditions: the slice reads as the list. -/
import Derived.Test.YthfmfeghipjpdaaDoorPx0
import Derived.Test.YthfmfeghipjpdaaDoorHIter
namespace Go.Proofs.YthfmfeghipjpdaaDoor.P
open Go.RowKit Go.Proofs.YthfmfeghipjpdaaDoorW.PrintWords Go.Proofs.YthfmfeghipjpdaaDoorW.PrintLast Go.Proofs.YthfmfeghipjpdaaDoorW.PrintMore
attribute [local go_sem] max2_int min2_int max_two min_two max_three min_three max_four min_four
set_option linter.unusedVariables false
set_option linter.unusedSimpArgs false

/-! ### spec_ntTurn: function 61 -/
mutual
def spec_ntTurn.l0 : Nat → List ByteArray → List ByteArray → Int → Int → Option (List ByteArray)
  | 0, _, _, _, _ => none
  | k + 1, x0, x3, x10, x11 => if x11 < x10 then (spec_ntTurn.l1 k x0 x3 x11 (⟨#[]⟩ : ByteArray) (wrap64 ((x0.length : Int) - 1)) x10 x11) else (some x3)
def spec_ntTurn.l1 : Nat → List ByteArray → List ByteArray → Int → ByteArray → Int → Int → Int → Option (List ByteArray)
  | 0, _, _, _, _, _, _, _ => none
  | k + 1, x0, x3, x4, x5, x6, x10, x11 => if x6 ≥ 0 then (if 0 ≤ x6 then (if x6 < (x0.length : Int) then (if 0 ≤ x4 then (if x4 ≤ (wrap64 (x4 + 1)) then (if (wrap64 (x4 + 1)) ≤ ((rdOf ByteArray.empty x0 x6).size : Int) then (if x5.size + ((rdOf ByteArray.empty x0 x6).extract (x4 : Int).toNat ((wrap64 (x4 + 1)) : Int).toNat).size ≤ 9223372036854775807 then (spec_ntTurn.l1 k x0 x3 x4 (x5 ++ ((rdOf ByteArray.empty x0 x6).extract (x4 : Int).toNat ((wrap64 (x4 + 1)) : Int).toNat)) (wrap64 (x6 - 1)) x10 x11) else (none)) else (none)) else (none)) else (none)) else (none)) else (none)) else (if x3.length < 8796093022208 then (spec_ntTurn.l0 k x0 (x3 ++ [x5]) x10 (wrap64 (x11 + 1))) else (none))
end
def spec_ntTurn.f (k : Nat) (l0 : List ByteArray) : Option (List ByteArray) := if 0 < (l0.length : Int) then (if asciiB (rdOf ByteArray.empty l0 0) = true then (spec_ntTurn.l0 k l0 ([] : List ByteArray) ((rdOf ByteArray.empty l0 0).size : Int) 0) else (none)) else (none)
theorem spec_ntTurn.mono_l : ∀ k, (∀ y0 y1 y2 y3, LeO (spec_ntTurn.l0 k y0 y1 y2 y3) (spec_ntTurn.l0 (k + 1) y0 y1 y2 y3)) ∧ (∀ y0 y1 y2 y3 y4 y5 y6, LeO (spec_ntTurn.l1 k y0 y1 y2 y3 y4 y5 y6) (spec_ntTurn.l1 (k + 1) y0 y1 y2 y3 y4 y5 y6))
  | 0 => ⟨fun _ _ _ _ r h => by simp [spec_ntTurn.l0] at h, fun _ _ _ _ _ _ _ r h => by simp [spec_ntTurn.l1] at h⟩
  | k + 1 => by
    obtain ⟨ih0, ih1⟩ := spec_ntTurn.mono_l k
    refine ⟨?_, ?_⟩
    · intro y0 y1 y2 y3
      unfold spec_ntTurn.l0
      repeat' first
      | (with_reducible exact ih0 _ _ _ _)
      | (with_reducible exact ih1 _ _ _ _ _ _ _)
      | (with_reducible exact LeO.refl _)
      | (with_reducible exact LeO.none _)
      | (with_reducible refine LeO.ite ?_ ?_)
      | (with_reducible refine LeO.bind ?_ (fun _ => ?_))
      | exact ih0 _ _ _ _
      | exact ih1 _ _ _ _ _ _ _
      | exact LeO.none _
      | refine LeO.ite ?_ ?_
      | refine LeO.bind ?_ (fun _ => ?_)
    · intro y0 y1 y2 y3 y4 y5 y6
      unfold spec_ntTurn.l1
      repeat' first
      | (with_reducible exact ih0 _ _ _ _)
      | (with_reducible exact ih1 _ _ _ _ _ _ _)
      | (with_reducible exact LeO.refl _)
      | (with_reducible exact LeO.none _)
      | (with_reducible refine LeO.ite ?_ ?_)
      | (with_reducible refine LeO.bind ?_ (fun _ => ?_))
      | exact ih0 _ _ _ _
      | exact ih1 _ _ _ _ _ _ _
      | exact LeO.none _
      | refine LeO.ite ?_ ?_
      | refine LeO.bind ?_ (fun _ => ?_)
theorem spec_ntTurn.mono : ∀ a0 k, LeO (spec_ntTurn.f k a0) (spec_ntTurn.f (k + 1) a0) := by
  intro a0 k
  obtain ⟨ih0, ih1⟩ := spec_ntTurn.mono_l k
  unfold spec_ntTurn.f
  repeat' first
      | (with_reducible exact ih0 _ _ _ _)
      | (with_reducible exact ih1 _ _ _ _ _ _ _)
      | (with_reducible exact LeO.refl _)
      | (with_reducible exact LeO.none _)
      | (with_reducible refine LeO.ite ?_ ?_)
      | (with_reducible refine LeO.bind ?_ (fun _ => ?_))
      | exact ih0 _ _ _ _
      | exact ih1 _ _ _ _ _ _ _
      | exact LeO.none _
      | refine LeO.ite ?_ ?_
      | refine LeO.bind ?_ (fun _ => ?_)
set_option maxHeartbeats 8000000 in
set_option maxRecDepth 100000 in
theorem spec_ntTurn.calls (k : Nat) (A0 : Option Addr) (c0 : Nat) (l0 : List ByteArray) (r : List ByteArray) (w : World) (hr0 : Kd.C Kd.string w A0 l0.length l0) (hc0 : l0.length ≤ c0) (h : spec_ntTurn.f k l0 = some r) :
    Calls Tryd.prog 61 #[.slice A0 l0.length c0] w fun e w' => ∃ v0_ : Value, e = .returned (v0_) ∧ Kd.R Kd.string 9 w' w.heap.size (fun _ => True) v0_ r ∧ Below w.heap.size w w' := by
  have HR0 := Aside0.mk hr0
  have HC0 := Aside0.mk hc0
  clear hr0 hc0
  have HB := Aside0.mk (Below.refl w.heap.size w)
  have H : (if 0 < (l0.length : Int) then (if asciiB (rdOf ByteArray.empty l0 0) = true then (spec_ntTurn.l0 k l0 ([] : List ByteArray) ((rdOf ByteArray.empty l0 0).size : Int) 0) else (none)) else (none)) = some r := h
  clear h
  by_cases c2 : 0 < (l0.length : Int)
  · rw [if_pos c2] at H
    have c2b0 : decide (0 < (l0.length : Int)) = true := decide_eq_true c2
    have c2b1 : decide (0 < l0.length) = true := decide_eq_true (by omega)
    clear c2
    by_cases casc : asciiB (rdOf ByteArray.empty l0 0) = true
    case neg =>
      rw [if_neg casc] at H
      exact absurd H (by simp)
    rw [if_pos casc] at H
    have ASC := Aside0.mk casc
    clear casc
    have H' := Aside0.mk H
    clear H
    obtain ⟨S, hS⟩ : ∃ S : ByteArray, S = (rdOf ByteArray.empty l0 0) := ⟨_, rfl⟩
    rw [← hS] at H' ASC
    have NS := Aside0.mk hS
    clear hS
    have p311 : 0 ≤ (0 : Int) := (by omega)
    have q311 : 0 < (l0.length : Int) := of_decide_eq_true (by first | (with_reducible assumption) | assumption)
    obtain ⟨ad311, e311, hx311_0⟩ := Kd.at_string HR0.out 0 p311 q311
    cases e311
    have qi311 : (0 < l0.length) = True := eq_true (by omega)
    (try rw [show ((0 : Int)).toNat = 0 from rfl] at hx311_0)
    (try rw [Addr.add_zero'] at hx311_0)
    rw [← NS.out] at hx311_0
    replace p311 := eq_true p311
    replace q311 := eq_true q311
    go_enter Tryd.func61, Tryd.ntmps61
    go_wp2
    go_loopg [3] k (fun kq v3 w' => ∃ (x3_1 : List ByteArray) (p : Nat), Aside0 (spec_ntTurn.l0 kq l0 x3_1 (S.size : Int) (p : Int) = some r) ∧ Aside0 (kq ≤ k) ∧ Aside0 (Kd.R Kd.string 9 w' w.heap.size (fun _ => True) v3 x3_1) ∧ Aside0 (Below w.heap.size w w') ∧ Aside0 (w'.heap[w.heap.size]? = some (.stringIter S p)))
    case atStart => exact ⟨(([] : List ByteArray)), 0, H', ⟨Nat.le_refl _⟩, ⟨Kd.R_nil _ _ _ _ _⟩, ⟨below_alloc (by repeat (first | (with_reducible first | exact HB.out | apply below_alloc | apply pw_below_drewN | apply below_drew1) | exact HB.out)) _⟩, ⟨World.iter_heap _ _ _⟩⟩
    case round =>
      clear H'
      try clear c2
      try clear c2b0
      try clear c2b1
      try clear p2
      try clear hx311_0
      try clear p311
      try clear q311
      obtain ⟨x3_1, p, HA, HK1, HO_3, HB, IT⟩ := hrel
      cases gk with
      | zero => exact absurd HA.out (by simp [spec_ntTurn.l0])
      | succ k1 =>
        have H := HA.out
        clear HA
        simp only [spec_ntTurn.l0] at H
        by_cases c3 : (p : Int) < (S.size : Int)
        · rw [if_pos c3] at H
          have c3b0 : decide ((p : Int) < (S.size : Int)) = true := decide_eq_true c3
          have hpS : p < S.size := by omega
          have hsz := asciiB_size ASC.out
          have hp1 : wrap64 ((p : Int) + 1) = ((p + 1 : Nat) : Int) := by unfold wrap64; omega
          clear c3
          have H' := Aside0.mk H
          clear H
          have HP1 := Aside0.mk hp1
          clear hp1 hsz
          obtain ⟨W2, hnx, it2, hb2, hr2⟩ := iter_next (P := Tryd.prog) ASC.out hpS IT.out HB.out (Nat.le_refl _)
          have n0_ := Aside0.mk (hr2 HO_3.out)
          have n1_ := Aside0.mk hb2
          have n2_ := Aside0.mk it2
          clear HB HO_3 IT hb2 it2 hr2
          have HO_3 := n0_
          have HB := n1_
          have IT := n2_
          clear n0_ n1_ n2_
          go_wp2
          clear hnx
          go_loopg [5, 6] k1 (fun kq v5 v6 w' => ∃ (x5_2 : ByteArray) (x6_2 : Int), v5 = .string x5_2 ∧ v6 = .int .i64 x6_2 ∧ Aside0 (spec_ntTurn.l1 kq l0 x3_1 (p : Int) x5_2 x6_2 (S.size : Int) (p : Int) = some r) ∧ Aside0 (kq ≤ k1) ∧ Aside0 (Kd.R Kd.string 9 w' w.heap.size (fun _ => True) u3 x3_1) ∧ Aside0 (Below w.heap.size w w') ∧ Aside0 (w'.heap[w.heap.size]? = some (.stringIter S (p + 1))))
          case atStart => exact ⟨((⟨#[]⟩ : ByteArray)), (wrap64 ((l0.length : Int) - 1)), (by first | rfl | (simp; done) | (simp [*]; done)), (by first | rfl | (simp; done) | (simp [*]; done)), H', ⟨Nat.le_refl _⟩, ⟨by (with_reducible repeat (first | apply Kd.R_alloc | apply Kd.R_drewN | apply Kd.R_drew)); exact HO_3.out⟩, ⟨by repeat (first | (with_reducible first | exact HB.out | apply below_alloc | apply pw_below_drewN | apply below_drew1) | exact HB.out)⟩, ⟨by (with_reducible repeat (first | refine blk_drewN ?_ _ | refine blk_drew ?_ | refine blk_alloc ?_ _)); exact IT.out⟩⟩
          case round =>
            clear H'
            try clear c2
            try clear c2b0
            try clear c2b1
            try clear p2
            try clear c3
            try clear c3b0
            try clear p3
            try clear q3
            try clear hx3
            try clear qi3
            try clear hx311_0
            try clear p2
            try clear p311
            try clear q311
            obtain ⟨x5_2, x6_2, rfl, rfl, HA, HK2, HO_3, HB, IT⟩ := hrel
            cases gk with
            | zero => exact absurd HA.out (by simp [spec_ntTurn.l1])
            | succ k2 =>
              have H := HA.out
              clear HA
              simp only [spec_ntTurn.l1] at H
              by_cases c4 : x6_2 ≥ 0
              · rw [if_pos c4] at H
                have c4b0 : decide (0 ≤ x6_2) = true := decide_eq_true c4
                clear c4
                by_cases c5 : 0 ≤ x6_2
                · rw [if_pos c5] at H
                  have c5b0 : decide (0 ≤ x6_2) = true := decide_eq_true c5
                  clear c5
                  by_cases c6 : x6_2 < (l0.length : Int)
                  · rw [if_pos c6] at H
                    have c6b0 : decide (x6_2 < (l0.length : Int)) = true := decide_eq_true c6
                    clear c6
                    by_cases c7 : 0 ≤ (p : Int)
                    · rw [if_pos c7] at H
                      have c7b0 := eq_true c7
                      have c7b1 : decide (0 ≤ (p : Int)) = true := decide_eq_true c7
                      clear c7
                      by_cases c8 : (p : Int) ≤ (wrap64 ((p : Int) + 1))
                      · rw [if_pos c8] at H
                        have c8b0 := eq_true c8
                        have c8b1 : decide ((p : Int) ≤ (wrap64 ((p : Int) + 1))) = true := decide_eq_true c8
                        by_cases c9 : (wrap64 ((p : Int) + 1)) ≤ ((rdOf ByteArray.empty l0 x6_2).size : Int)
                        · rw [if_pos c9] at H
                          have c9b0 := eq_true c9
                          have c9b1 : decide ((wrap64 ((p : Int) + 1)) ≤ ((rdOf ByteArray.empty l0 x6_2).size : Int)) = true := decide_eq_true c9
                          by_cases c10 : x5_2.size + ((rdOf ByteArray.empty l0 x6_2).extract ((p : Int) : Int).toNat ((wrap64 ((p : Int) + 1)) : Int).toNat).size ≤ 9223372036854775807
                          · rw [if_pos c10] at H
                            have c10b0 := eq_true c10
                            have c10b1 : decide (x5_2.size + ((rdOf ByteArray.empty l0 x6_2).extract ((p : Int) : Int).toNat ((wrap64 ((p : Int) + 1)) : Int).toNat).size ≤ 9223372036854775807) = true := decide_eq_true c10
                            try have c10b2 : (9223372036854775807 < x5_2.size + ((rdOf ByteArray.empty l0 x6_2).extract ((p : Int) : Int).toNat ((wrap64 ((p : Int) + 1)) : Int).toNat).size) = False := eq_false (Nat.not_lt.2 c10)
                            have c10q := c10
                            rw [Int.toNat_natCast, ByteArray.size_extract, Nat.min_eq_left (by omega)] at c10q
                            have c10b3 : (9223372036854775807 < x5_2.size + ((wrap64 ((p : Int) + 1)).toNat - p)) = False := eq_false (by omega)
                            have H' := Aside0.mk H
                            clear H
                            have p312 : 0 ≤ (x6_2 : Int) := of_decide_eq_true (by first | (with_reducible assumption) | assumption)
                            have q312 : x6_2 < (l0.length : Int) := of_decide_eq_true (by first | (with_reducible assumption) | assumption)
                            obtain ⟨ad312, e312, hx312_0⟩ := Kd.at_string HR0.out x6_2 p312 q312
                            obtain rfl : ad311 = ad312 := (by injection e312)
                            replace hx312_0 := (HB.out.cell (World.block_lt_of_cell? w _ hx312_0)).trans hx312_0
                            replace p312 := eq_true p312
                            replace q312 := eq_true q312
                            go_wp2
                            go_roundg k2
                            case measure => have := HK1.out; have := HK2.out; omega
                            case rel => exact ⟨(x5_2 ++ ((rdOf ByteArray.empty l0 x6_2).extract ((p : Int) : Int).toNat ((wrap64 ((p : Int) + 1)) : Int).toNat)), (wrap64 (x6_2 - 1)), (by first | rfl | (simp; done) | (simp [*]; done)), (by first | rfl | (simp; done) | (simp [*]; done)), H', ⟨by have := HK1.out; have := HK2.out; omega⟩, ⟨by (with_reducible repeat (first | apply Kd.R_alloc | apply Kd.R_drewN | apply Kd.R_drew)); exact HO_3.out⟩, ⟨by repeat (first | (with_reducible first | exact HB.out | apply below_alloc | apply pw_below_drewN | apply below_drew1) | exact HB.out)⟩, ⟨by (with_reducible repeat (first | refine blk_drewN ?_ _ | refine blk_drew ?_ | refine blk_alloc ?_ _)); exact IT.out⟩⟩
                          · rw [if_neg c10] at H
                            exact absurd H (by simp)
                        · rw [if_neg c9] at H
                          exact absurd H (by simp)
                      · rw [if_neg c8] at H
                        exact absurd H (by simp)
                    · rw [if_neg c7] at H
                      exact absurd H (by simp)
                  · rw [if_neg c6] at H
                    exact absurd H (by simp)
                · rw [if_neg c5] at H
                  exact absurd H (by simp)
              · rw [if_neg c4] at H
                have c4b0 : decide (0 ≤ x6_2) = false := decide_eq_false c4
                clear c4
                by_cases c11 : x3_1.length < 8796093022208
                · rw [if_pos c11] at H
                  have LMc11 := Aside0.mk c11
                  clear c11
                  obtain ⟨y313, hy313⟩ : ∃ y_ : List ByteArray, y_ = (x3_1 ++ [x5_2]) := ⟨_, rfl⟩
                  replace H : (spec_ntTurn.l0 k2 l0 y313 (S.size : Int) (wrap64 ((p : Int) + 1))) = some r := by first | (rw [hy313]; with_reducible exact H) | (have H2_ := (Option.bind_some _ _).symm.trans H; rw [hy313]; with_reducible exact H2_) | (have H2_ := (Option.bind_some _ _).symm.trans H; with_reducible exact H2_) | with_reducible exact H | (rw [hy313]; exact H) | exact H
                  have Ny313 := Aside0.mk hy313
                  clear hy313
                  have H' := Aside0.mk H
                  clear H
                  go_wp2_with (first | ((with_reducible refine gate_builtin (b := .append) (xs := #[.tmp 31, .tmp 33]) rfl ?_); at_builtin; refine Kd.R_append Kd.string (w0 := w) w.heap.size rfl (.tmp 31) (.tmp 33) 22 9 (.string ⟨#[]⟩) 16 rfl Tryd.underlying22 info9 rfl (by decide) (by omega) u3 x3_1 x5_2 [.string x5_2] (fun _ => True) (fun _ => False) rfl rfl ?aP (fun _ hk => hk.elim) ?aF ?aO ?aB ?aS ?aL ?_; (case aP => exact rfl); (case aB => exact (by repeat (first | (with_reducible first | exact HB.out | apply below_alloc | apply pw_below_drewN | apply below_drew1) | exact HB.out))); (case aF => exact (fun _ _ => trivial)); (case aO => exact (by (with_reducible repeat (first | apply Kd.R_alloc | apply Kd.R_drewN | apply Kd.R_drew)); exact HO_3.out)); (case aS => exact (below_size (by repeat (first | (with_reducible first | exact HB.out | apply below_alloc | apply pw_below_drewN | apply below_drew1) | exact HB.out)))); (case aL => have := LMc11.out; omega); intro v314 w12 ho hb hg hat; rw [← Ny313.out] at ho; have n0_ := Aside0.mk (hb); have n1_ := Aside0.mk (ho); have n2_ := Aside0.mk (blk_grown (g := w.heap.size) (o := .stringIter S (p + 1)) (by (with_reducible repeat (first | refine blk_drewN ?_ _ | refine blk_drew ?_ | refine blk_alloc ?_ _)); exact IT.out) hg (R_ne_iter HO_3.out IT.out)); clear HB; clear HO_3; clear IT; have HB := n0_; have HO315 := n1_; have IT := n2_; clear n0_ n1_ n2_; clear ho hb hg hat))
                  go_roundg k2
                  case measure => have := HK1.out; have := HK2.out; omega
                  case rel => exact ⟨(y313), p + 1, ⟨by rw [← HP1.out]; exact H'.out⟩, ⟨by have := HK1.out; have := HK2.out; omega⟩, ⟨by (with_reducible repeat (first | apply Kd.R_alloc | apply Kd.R_drewN | apply Kd.R_drew)); exact HO315.out⟩, ⟨by repeat (first | (with_reducible first | exact HB.out | apply below_alloc | apply pw_below_drewN | apply below_drew1) | exact HB.out)⟩, ⟨by (with_reducible repeat (first | refine blk_drewN ?_ _ | refine blk_drew ?_ | refine blk_alloc ?_ _)); exact IT.out⟩⟩
                · rw [if_neg c11] at H
                  exact absurd H (by simp)
        · rw [if_neg c3] at H
          have c3b0 : decide ((p : Int) < (S.size : Int)) = false := decide_eq_false c3
          clear c3
          have hpS : ¬ p < S.size := by have := of_decide_eq_false c3b0; omega
          have hnx := fun ty => Lib.run_next_end_at (P := Tryd.prog) wr w.heap.size S p ty IT.out hpS
          obtain rfl := Option.some.inj H
          go_wp2
          go_ret
          exact ⟨_, by first | rfl | (simp [errW_none, errW_some] <;> rfl) | (simp [*, errW_none, errW_some] <;> rfl), by (with_reducible repeat (first | apply Kd.R_alloc | apply Kd.R_drewN | apply Kd.R_drew)); exact HO_3.out, by repeat (first | (with_reducible first | exact HB.out | apply below_alloc | apply pw_below_drewN | apply below_drew1) | exact HB.out)⟩
  · rw [if_neg c2] at H
    exact absurd H (by simp)

end Go.Proofs.YthfmfeghipjpdaaDoor.P
