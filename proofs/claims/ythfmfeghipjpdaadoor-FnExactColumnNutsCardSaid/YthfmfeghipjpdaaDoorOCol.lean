/- spec.ColumnNuts: what the call comes to. Conditions: the slice reads as the list. -/
import Derived.Test.YthfmfeghipjpdaaDoorPx0
import Derived.Test.YthfmfeghipjpdaaDoorHIter
import Derived.Test.YthfmfeghipjpdaaDoorPx3
import Derived.Test.YthfmfeghipjpdaaDoorPx12
namespace Go.Proofs.YthfmfeghipjpdaaDoor.P
open Go.RowKit Go.Proofs.YthfmfeghipjpdaaDoorW.PrintWords Go.Proofs.YthfmfeghipjpdaaDoorW.PrintLast Go.Proofs.YthfmfeghipjpdaaDoorW.PrintMore
attribute [local go_sem] max2_int min2_int max_two min_two max_three min_three max_four min_four
set_option linter.unusedVariables false
set_option linter.unusedSimpArgs false

/-! ### spec_ColumnNuts: function 39 -/
def spec_ColumnNuts.l0 : Nat → List ByteArray → List Int → Int → Int → Option (List Int × Bool)
  | 0, _, _, _, _ => none
  | k + 1, x0, x4, x12, x13 => if x13 < x12 then ((spec_ntSum.f k x0 x13 0 (wrap64 (x13 + 1)) (x0.length : Int)).bind fun t421 => (if x4.length < 17592186044416 then (spec_ColumnNuts.l0 k x0 (x4 ++ [t421]) x12 (wrap64 (x13 + 1))) else (none))) else (some (x4, true))
def spec_ColumnNuts.f (k : Nat) (l0 : List ByteArray) : Option (List Int × Bool) := (spec_ntGood.f k l0).bind fun t419 => (if t419 = true then (if 0 < (l0.length : Int) then (if asciiB (rdOf ByteArray.empty l0 0) = true then (spec_ColumnNuts.l0 k l0 ([] : List Int) ((rdOf ByteArray.empty l0 0).size : Int) 0) else (none)) else (none)) else (some (([] : List Int), false)))
theorem spec_ColumnNuts.mono_l : ∀ k, (∀ y0 y1 y2 y3, LeO (spec_ColumnNuts.l0 k y0 y1 y2 y3) (spec_ColumnNuts.l0 (k + 1) y0 y1 y2 y3))
  | 0 => fun _ _ _ _ r h => by simp [spec_ColumnNuts.l0] at h
  | k + 1 => by
    have ih0 := spec_ColumnNuts.mono_l k
    · intro y0 y1 y2 y3
      unfold spec_ColumnNuts.l0
      repeat' first
      | (with_reducible exact ih0 _ _ _ _)
      | (with_reducible exact spec_ntGood.mono _ _)
      | (with_reducible exact spec_ntSum.mono _ _ _ _ _ _)
      | (with_reducible exact LeO.refl _)
      | (with_reducible exact LeO.none _)
      | (with_reducible refine LeO.ite ?_ ?_)
      | (with_reducible refine LeO.bind ?_ (fun _ => ?_))
      | exact ih0 _ _ _ _
      | exact spec_ntGood.mono _ _
      | exact spec_ntSum.mono _ _ _ _ _ _
      | exact LeO.none _
      | refine LeO.ite ?_ ?_
      | refine LeO.bind ?_ (fun _ => ?_)
theorem spec_ColumnNuts.mono : ∀ a0 k, LeO (spec_ColumnNuts.f k a0) (spec_ColumnNuts.f (k + 1) a0) := by
  intro a0 k
  have ih0 := spec_ColumnNuts.mono_l k
  unfold spec_ColumnNuts.f
  repeat' first
      | (with_reducible exact ih0 _ _ _ _)
      | (with_reducible exact spec_ntGood.mono _ _)
      | (with_reducible exact spec_ntSum.mono _ _ _ _ _ _)
      | (with_reducible exact LeO.refl _)
      | (with_reducible exact LeO.none _)
      | (with_reducible refine LeO.ite ?_ ?_)
      | (with_reducible refine LeO.bind ?_ (fun _ => ?_))
      | exact ih0 _ _ _ _
      | exact spec_ntGood.mono _ _
      | exact spec_ntSum.mono _ _ _ _ _ _
      | exact LeO.none _
      | refine LeO.ite ?_ ?_
      | refine LeO.bind ?_ (fun _ => ?_)
set_option maxHeartbeats 8000000 in
set_option maxRecDepth 100000 in
theorem spec_ColumnNuts.calls (k : Nat) (A0 : Option Addr) (c0 : Nat) (l0 : List ByteArray) (r1 : List Int) (r2 : Bool) (w : World) (hr0 : Kd.C Kd.string w A0 l0.length l0) (hc0 : l0.length ≤ c0) (h : spec_ColumnNuts.f k l0 = some (r1, r2)) :
    Calls Tryd.prog 39 #[.slice A0 l0.length c0] w fun e w' => ∃ v0_ : Value, e = .returned (.tuple #[v0_, .bool r2]) ∧ Kd.R (Kd.int .i64) 3 w' w.heap.size (fun _ => True) v0_ r1 ∧ Below w.heap.size w w' := by
  have HR0 := Aside0.mk hr0
  have HC0 := Aside0.mk hc0
  clear hr0 hc0
  have HB := Aside0.mk (Below.refl w.heap.size w)
  have H : ((spec_ntGood.f k l0).bind fun t419 => (if t419 = true then (if 0 < (l0.length : Int) then (if asciiB (rdOf ByteArray.empty l0 0) = true then (spec_ColumnNuts.l0 k l0 ([] : List Int) ((rdOf ByteArray.empty l0 0).size : Int) 0) else (none)) else (none)) else (some (([] : List Int), false)))) = some (r1, r2) := h
  clear h
  replace H := Option.bind_eq_some_iff.mp H
  obtain ⟨t419, A20, H⟩ := H
  replace H : (if t419 = true then (if 0 < (l0.length : Int) then (if asciiB (rdOf ByteArray.empty l0 0) = true then (spec_ColumnNuts.l0 k l0 ([] : List Int) ((rdOf ByteArray.empty l0 0).size : Int) 0) else (none)) else (none)) else (some (([] : List Int), false))) = some (r1, r2) := H
  have A2 := Aside0.mk A20
  clear A20
  by_cases c3 : t419 = true
  · subst c3
    have H1 : (if 0 < (l0.length : Int) then (if asciiB (rdOf ByteArray.empty l0 0) = true then (spec_ColumnNuts.l0 k l0 ([] : List Int) ((rdOf ByteArray.empty l0 0).size : Int) 0) else (none)) else (none)) = some (r1, r2) := by rw [if_pos rfl] at H; exact H
    clear H
    have H := H1
    clear H1
    by_cases c4 : 0 < (l0.length : Int)
    · rw [if_pos c4] at H
      have c4b0 : decide (0 < (l0.length : Int)) = true := decide_eq_true c4
      have c4b1 : decide (0 < l0.length) = true := decide_eq_true (by omega)
      clear c4
      by_cases casc : asciiB (rdOf ByteArray.empty l0 0) = true
      case neg =>
        rw [if_neg casc] at H
        exact absurd H (by simp)
      rw [if_pos casc] at H
      have ASC := Aside0.mk casc
      clear casc
      have H' := Aside0.mk H
      clear H
      obtain ⟨S, hS⟩ : ∃ S : ByteArray, S = (rdOf ByteArray.empty l0 0) := ⟨_, rfl⟩
      rw [← hS] at H' ASC
      have NS := Aside0.mk hS
      clear hS
      go_enter Tryd.func39, Tryd.ntmps39
      go_wp2_with (first | ((with_reducible refine gate_callee (f := 45) rfl ?_); refine goesL_ (some 7) rfl rfl Tryd.func45 (by kernel_rfl) rfl #[.slice A0 l0.length c0] rfl (by (try simp only [List.map_toArray, List.map_cons, List.map_nil]); first | done | rfl | (simp only [List.length_drop, List.length_take]; rfl)) ?_; (with_reducible refine (spec_ntGood.calls k _ _ l0 true _ ?side1 ?side2 A2.out).mono ?_); (case side1 => repeat (first | exact HR0.out | (with_reducible refine Kd.C_alloc ?_ _) | (with_reducible refine Kd.C_drewN ?_ _) | (with_reducible refine Kd.C_drew ?_))); (case side2 => exact HC0.out); rintro e w' ⟨rfl, ⟨nd, rfl⟩⟩; refine ⟨_, rfl, ?_⟩; have p420 : 0 ≤ (0 : Int) := (by omega); have q420 : 0 < (l0.length : Int) := of_decide_eq_true (by first | (with_reducible assumption) | assumption); obtain ⟨ad420, e420, hx420_0⟩ := Kd.at_string HR0.out 0 p420 q420; cases e420; have qi420 : (0 < l0.length) = True := eq_true (by omega); (try rw [show ((0 : Int)).toNat = 0 from rfl] at hx420_0); (try rw [Addr.add_zero'] at hx420_0); (rw [← NS.out] at hx420_0); replace p420 := eq_true p420; replace q420 := eq_true q420))
      go_loopg [4] k (fun kq v4 w' => ∃ (x4_1 : List Int) (p : Nat), Aside0 (spec_ColumnNuts.l0 kq l0 x4_1 (S.size : Int) (p : Int) = some (r1, r2)) ∧ Aside0 (kq ≤ k) ∧ Aside0 (Kd.R (Kd.int .i64) 3 w' w.heap.size (fun _ => True) v4 x4_1) ∧ Aside0 (Below w.heap.size w w') ∧ Aside0 (w'.heap[w.heap.size]? = some (.stringIter S p)))
      case atStart => exact ⟨(([] : List Int)), 0, H', ⟨Nat.le_refl _⟩, ⟨Kd.R_nil _ _ _ _ _⟩, ⟨below_alloc (by repeat (first | (with_reducible first | exact HB.out | apply below_alloc | apply pw_below_drewN | apply below_drew1) | exact HB.out)) _⟩, ⟨World.iter_heap _ _ _⟩⟩
      case round =>
        clear H'
        try clear p2
        try clear c3
        try clear c4
        try clear c4b0
        try clear c4b1
        try clear p4
        try clear q4
        try clear hx4
        try clear qi4
        try clear hx420_0
        try clear p420
        try clear q420
        obtain ⟨x4_1, p, HA, HK1, HO_4, HB, IT⟩ := hrel
        cases gk with
        | zero => exact absurd HA.out (by simp [spec_ColumnNuts.l0])
        | succ k1 =>
          have H := HA.out
          clear HA
          simp only [spec_ColumnNuts.l0] at H
          by_cases c5 : (p : Int) < (S.size : Int)
          · rw [if_pos c5] at H
            have c5b0 : decide ((p : Int) < (S.size : Int)) = true := decide_eq_true c5
            have hpS : p < S.size := by omega
            have hsz := asciiB_size ASC.out
            clear c5
            replace H := Option.bind_eq_some_iff.mp H
            obtain ⟨t421, A60, H⟩ := H
            replace H : (if x4_1.length < 17592186044416 then (spec_ColumnNuts.l0 k1 l0 (x4_1 ++ [t421]) (S.size : Int) (wrap64 ((p : Int) + 1))) else (none)) = some (r1, r2) := H
            have A6 := Aside0.mk A60
            clear A60
            by_cases c7 : x4_1.length < 17592186044416
            · rw [if_pos c7] at H
              have LMc7 := Aside0.mk c7
              clear c7
              obtain ⟨y422, hy422⟩ : ∃ y_ : List Int, y_ = (x4_1 ++ [t421]) := ⟨_, rfl⟩
              replace H : (spec_ColumnNuts.l0 k1 l0 y422 (S.size : Int) (wrap64 ((p : Int) + 1))) = some (r1, r2) := by first | (rw [hy422]; with_reducible exact H) | (have H2_ := (Option.bind_some _ _).symm.trans H; rw [hy422]; with_reducible exact H2_) | (have H2_ := (Option.bind_some _ _).symm.trans H; with_reducible exact H2_) | with_reducible exact H | (rw [hy422]; exact H) | exact H
              have Ny422 := Aside0.mk hy422
              clear hy422
              have H' := Aside0.mk H
              clear H
              have hp1 : wrap64 ((p : Int) + 1) = ((p + 1 : Nat) : Int) := by unfold wrap64; omega
              rw [hp1] at H'
              have HP1 := Aside0.mk hp1
              clear hp1 hsz
              obtain ⟨W2, hnx, it2, hb2, hr2⟩ := iter_next (P := Tryd.prog) ASC.out hpS IT.out HB.out (Nat.le_refl _)
              have n0_ := Aside0.mk (hr2 HO_4.out)
              have n1_ := Aside0.mk hb2
              have n2_ := Aside0.mk it2
              clear HB HO_4 IT hb2 it2 hr2
              have HO_4 := n0_
              have HB := n1_
              have IT := n2_
              clear n0_ n1_ n2_
              go_wp2_with (first | ((with_reducible refine gate_callee (f := 52) rfl ?_); refine goesL_ (some 23) rfl rfl Tryd.func52 (by kernel_rfl) rfl #[.slice (some ad420) l0.length c0, .int .i64 (p : Int), .int .i64 0, .int .i64 (wrap64 ((p : Int) + 1)), .int .i64 (l0.length : Int)] rfl (by (try simp only [List.map_toArray, List.map_cons, List.map_nil]); first | done | rfl | (simp only [List.length_drop, List.length_take]; rfl)) ?_; (with_reducible refine (spec_ntSum.calls k1 _ _ l0 (p : Int) 0 (wrap64 ((p : Int) + 1)) (l0.length : Int) t421 _ ?side1 ?side2 A6.out).mono ?_); (case side1 => repeat (first | exact (Kd.C_below HR0.out HB.out) | (with_reducible refine Kd.C_alloc ?_ _) | (with_reducible refine Kd.C_drewN ?_ _) | (with_reducible refine Kd.C_drew ?_))); (case side2 => exact HC0.out); rintro e w' ⟨rfl, ⟨nd, rfl⟩⟩; refine ⟨_, rfl, ?_⟩) | ((with_reducible refine gate_builtin (b := .append) (xs := #[.tmp 16, .tmp 24]) rfl ?_); at_builtin; refine Kd.R_append (Kd.int .i64) (w0 := w) w.heap.size rfl (.tmp 16) (.tmp 24) 44 3 (.int .i64 0) 8 rfl Tryd.underlying44 info3 rfl (by decide) (by omega) u4 x4_1 t421 [.int .i64 t421] (fun _ => True) (fun _ => False) rfl rfl ?aP (fun _ hk => hk.elim) ?aF ?aO ?aB ?aS ?aL ?_; (case aP => exact rfl); (case aB => exact (by repeat (first | (with_reducible first | exact HB.out | apply below_alloc | apply pw_below_drewN | apply below_drew1) | exact HB.out))); (case aF => exact (fun _ _ => trivial)); (case aO => exact (by (with_reducible repeat (first | apply Kd.R_alloc | apply Kd.R_drewN | apply Kd.R_drew)); exact HO_4.out)); (case aS => exact (below_size (by repeat (first | (with_reducible first | exact HB.out | apply below_alloc | apply pw_below_drewN | apply below_drew1) | exact HB.out)))); (case aL => have := LMc7.out; omega); intro v423 w8 ho hb hg hat; rw [← Ny422.out] at ho; have n0_ := Aside0.mk (hb); have n1_ := Aside0.mk (ho); have n2_ := Aside0.mk (blk_grown (g := w.heap.size) (o := .stringIter S (p + 1)) (by (with_reducible repeat (first | refine blk_drewN ?_ _ | refine blk_drew ?_ | refine blk_alloc ?_ _)); exact IT.out) hg (R_ne_iter HO_4.out IT.out)); clear HB; clear HO_4; clear IT; have HB := n0_; have HO424 := n1_; have IT := n2_; clear n0_ n1_ n2_; clear ho hb hg hat))
              go_roundg k1
              case measure => have := HK1.out; omega
              case rel => exact ⟨(y422), p + 1, H', ⟨by have := HK1.out; omega⟩, ⟨by (with_reducible repeat (first | apply Kd.R_alloc | apply Kd.R_drewN | apply Kd.R_drew)); exact HO424.out⟩, ⟨by repeat (first | (with_reducible first | exact HB.out | apply below_alloc | apply pw_below_drewN | apply below_drew1) | exact HB.out)⟩, ⟨by (with_reducible repeat (first | refine blk_drewN ?_ _ | refine blk_drew ?_ | refine blk_alloc ?_ _)); exact IT.out⟩⟩
            · rw [if_neg c7] at H
              exact absurd H (by simp)
          · rw [if_neg c5] at H
            have c5b0 : decide ((p : Int) < (S.size : Int)) = false := decide_eq_false c5
            clear c5
            have hpS : ¬ p < S.size := by have := of_decide_eq_false c5b0; omega
            have hnx := fun ty => Lib.run_next_end_at (P := Tryd.prog) wr w.heap.size S p ty IT.out hpS
            simp only [Option.some.injEq, Prod.mk.injEq] at H
            obtain ⟨rfl, rfl⟩ := H
            go_wp2
            go_ret2
            exact ⟨_, by first | rfl | (simp [errW_none, errW_some] <;> rfl) | (simp [*, errW_none, errW_some] <;> rfl), by (with_reducible repeat (first | apply Kd.R_alloc | apply Kd.R_drewN | apply Kd.R_drew)); exact HO_4.out, by repeat (first | (with_reducible first | exact HB.out | apply below_alloc | apply pw_below_drewN | apply below_drew1) | exact HB.out)⟩
    · rw [if_neg c4] at H
      exact absurd H (by simp)
  · replace c3 := Bool.eq_false_iff.mpr c3
    subst c3
    have H1 : (some (([] : List Int), false)) = some (r1, r2) := by rw [if_neg (show ¬ (false = true) by decide)] at H; exact H
    clear H
    have H := H1
    clear H1
    simp only [Option.some.injEq, Prod.mk.injEq] at H
    obtain ⟨rfl, rfl⟩ := H
    go_enter Tryd.func39, Tryd.ntmps39
    go_wp2_with (first | ((with_reducible refine gate_callee (f := 45) rfl ?_); refine goesL_ (some 7) rfl rfl Tryd.func45 (by kernel_rfl) rfl #[.slice A0 l0.length c0] rfl (by (try simp only [List.map_toArray, List.map_cons, List.map_nil]); first | done | rfl | (simp only [List.length_drop, List.length_take]; rfl)) ?_; (with_reducible refine (spec_ntGood.calls k _ _ l0 false _ ?side1 ?side2 A2.out).mono ?_); (case side1 => repeat (first | exact HR0.out | (with_reducible refine Kd.C_alloc ?_ _) | (with_reducible refine Kd.C_drewN ?_ _) | (with_reducible refine Kd.C_drew ?_))); (case side2 => exact HC0.out); rintro e w' ⟨rfl, ⟨nd, rfl⟩⟩; refine ⟨_, rfl, ?_⟩))
    go_ret2
    exact ⟨_, by first | rfl | (simp [errW_none, errW_some] <;> rfl) | (simp [*, errW_none, errW_some] <;> rfl), by first | exact Kd.R_nil _ _ _ _ _ | exact Kd.N_nil _ _ _ _ _ | exact Kd.V_nil _ _ _ _ _ | exact Kd.Q_nil _ _ _ _ _ | exact Kd.S_nil _ _ _ _ _, by repeat (first | (with_reducible first | exact HB.out | apply below_alloc | apply pw_below_drewN | apply below_drew1) | exact HB.out)⟩

end Go.Proofs.YthfmfeghipjpdaaDoor.P
