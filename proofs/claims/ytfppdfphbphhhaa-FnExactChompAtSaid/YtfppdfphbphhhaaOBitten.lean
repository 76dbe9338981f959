/- bitten: a chomp behind a bite: what the call comes to. Conditions: the slice reads as the list. -/
import Derived.Test.YtfppdfphbphhhaaPx0
import Derived.Test.YtfppdfphbphhhaaOCloneI
import Derived.Test.YtfppdfphbphhhaaHShelf
import Derived.Lib.Hide
namespace Go.Proofs.Ytfppdfphbphhhaa.P
open Go.RowKit Go.Proofs.YtfppdfphbphhhaaW.PrintWords Go.Proofs.YtfppdfphbphhhaaW.PrintLast Go.Proofs.YtfppdfphbphhhaaW.PrintMore
attribute [local go_sem] max2_int min2_int max_two min_two max_three min_three max_four min_four
set_option linter.unusedVariables false
set_option linter.unusedSimpArgs false

/-! ### impl_bitten: function 55 -/
def impl_bitten.l0 : Nat → Int → List Int → Int → Option (List Int)
  | 0, _, _, _ => none
  | k + 1, x1, x7, x8 => if x8 < (x7.length : Int) then (if 0 ≤ x8 then (impl_bitten.l0 k x1 (x7.set (x8 : Int).toNat (mn (rd x7 x8) x1)) (wrap64 (x8 + 1))) else (none)) else (if 0 < x7.length then (some (x7.filter fun x => !(x == 0))) else (none))
def impl_bitten.f (k : Nat) (l0 : List Int) (a1 : Int) (a2 : Int) : Option (List Int) := (slices_Clone_int_int.f l0).bind fun t329 => (impl_bitten.l0 k a1 t329 a2)
theorem impl_bitten.mono_l : ∀ k, (∀ y0 y1 y2, LeO (impl_bitten.l0 k y0 y1 y2) (impl_bitten.l0 (k + 1) y0 y1 y2))
  | 0 => fun _ _ _ r h => by simp [impl_bitten.l0] at h
  | k + 1 => by
    have ih0 := impl_bitten.mono_l k
    · intro y0 y1 y2
      unfold impl_bitten.l0
      repeat' first
      | (with_reducible exact ih0 _ _ _)
      | (with_reducible exact LeO.refl _)
      | (with_reducible exact LeO.none _)
      | (with_reducible refine LeO.ite ?_ ?_)
      | (with_reducible refine LeO.bind ?_ (fun _ => ?_))
      | exact ih0 _ _ _
      | exact LeO.none _
      | refine LeO.ite ?_ ?_
      | refine LeO.bind ?_ (fun _ => ?_)
theorem impl_bitten.mono : ∀ a0 a1 a2 k, LeO (impl_bitten.f k a0 a1 a2) (impl_bitten.f (k + 1) a0 a1 a2) := by
  intro a0 a1 a2 k
  have ih0 := impl_bitten.mono_l k
  unfold impl_bitten.f
  repeat' first
      | (with_reducible exact ih0 _ _ _)
      | (with_reducible exact LeO.refl _)
      | (with_reducible exact LeO.none _)
      | (with_reducible refine LeO.ite ?_ ?_)
      | (with_reducible refine LeO.bind ?_ (fun _ => ?_))
      | exact ih0 _ _ _
      | exact LeO.none _
      | refine LeO.ite ?_ ?_
      | refine LeO.bind ?_ (fun _ => ?_)
section
open Go.Lib Go.Sort
theorem own_putRow {W : World} {base g cap q : Nat} {cur : Array Value} (hb : base ≤ g) (hh : W.heap[g]? = some (.cells cur 3 (0, 0))) (hcap : cap ≤ maxLen) (hs : cur.size = cap * 1) (fl rest : List Int) (hn : (fl ++ rest).length ≤ cap) :
    (putRow (Value.int .i64) (Sort.ahead W q) g 0 (fl ++ rest).toArray).ownsRow base 3 1 (.slice (some ⟨g, 0, none⟩) fl.length cap) fl.length (encs (Value.int .i64) fl) := by
  rw [List.length_append] at hn
  refine ⟨by simp [encs], Or.inr ⟨g, cap, putCells (Value.int .i64) 0 (fl ++ rest).toArray cur, rfl, hb, ?_, by omega, hcap, by simp [putCells, hs], ?_⟩⟩
  · show ((Sort.ahead W q).heap.modify g (onCells _))[g]? = _
    rw [Array.getElem?_modify]
    simp only [if_true, Sort.ahead, hh, Option.map_some, onCells]
  · apply List.ext_getElem?
    intro k
    by_cases hk : k < fl.length
    · rw [List.getElem?_take_of_lt (by omega), Array.getElem?_toList]
      simp only [putCells, Array.getElem?_mapIdx, encs, List.getElem?_map, List.getElem?_eq_getElem hk]
      rw [Array.getElem?_eq_getElem (by omega)]
      simp only [Option.map_some]
      rw [if_pos ⟨Nat.zero_le _, by simp; omega⟩, getElem!_pos _ _ (by simp; omega)]
      simp [List.getElem_append_left hk]
    · rw [List.getElem?_eq_none (by rw [List.length_take]; omega), List.getElem?_eq_none (by simp [encs]; omega)]
theorem below_putRow {B g q off : Nat} {a w : World} {D : Array Int} (h : Below B a w) (hg : B ≤ g) : Below B a (putRow (Value.int .i64) (Sort.ahead w q) g off D) := by
  refine ⟨h.os, h.tape, h.output, ?_, fun k hk => ?_⟩
  · show a.heap.size ≤ (w.heap.modify g (onCells _)).size
    rw [Array.size_modify]
    exact h.size
  · show (w.heap.modify g (onCells _))[k]? = _
    rw [Array.getElem?_modify, if_neg (by omega)]
    exact h.block k hk
set_option maxHeartbeats 1000000 in
theorem impl_bitten.lit (x : Int) (W : World) : FnGives Try.prog 71 #[] #[.int .i64 x] (.bool (x == 0)) W := by
  show Calls _ _ _ _ _
  go_enter Try.func71, Try.ntmps71
  go_wp2
  go_ret
  exact ⟨rfl, 0, rfl⟩
theorem impl_bitten.del {W : World} (v : Value) (xs : List Int) (base : Nat) (w0 : World) (hp : 0 < xs.length) (HO : Kd.R (Kd.int .i64) 3 W base (fun _ => True) v xs) (HB : Below base w0 W) :
    Calls Try.prog 70 #[v, .func (.func 71) #[] #[]] W fun e w' => ∃ v0 : Value, e = .returned v0 ∧ Kd.R (Kd.int .i64) 3 w' base (fun _ => True) v0 (xs.filter fun x => !(x == 0)) ∧ Below base w0 w' := by
  have ho := Kd.own_of_R HO
  obtain ⟨hl, ⟨hv, h0⟩ | ⟨g, cap, cur, rfl, hb, hh, hn, hm, hs, ht⟩⟩ := ho
  · omega
  · have hH : Holds (Value.int .i64) W g 0 xs.toArray := by
      intro j hj
      have hj' : j < xs.length := by simpa using hj
      obtain ⟨a, b⟩ := Kd.R_celln 0 HO (j : Int) (by omega) (by omega)
      rw [Nat.zero_add]
      refine ⟨?_, by simpa using b⟩
      have a' : W.cell? ⟨g, j, none⟩ = some (.int .i64 (rdOf 0 xs (j : Int))) := by simpa using a
      rw [a', getElem!_pos xs.toArray j hj]
      simp [rdOf, List.getElem?_eq_getElem hj']
    have fle := List.length_filter_le (fun x : Int => !(x == 0)) xs
    refine (Try.slices_DeleteFunc (Value.int .i64) (fun _ => rfl) (fun x => x == 0) 71 #[] (enters_of Try.func71 (by kernel_rfl) rfl) 0 (fun _ => by first | rfl | kernel_rfl) g 0 cap xs.toArray W (fun W' x _ => impl_bitten.lit x W') (fun _ _ _ x _ => impl_bitten.lit x _) hH (by simp [maxLen] at hm ⊢; omega) (by simpa using hn)).mono ?_
    rintro e w' ⟨rfl, q, rfl⟩
    refine ⟨_, rfl, Kd.R_of_own (own_putRow hb hh hm hs _ _ ?_) (fun _ _ => trivial), below_putRow HB hb⟩
    rw [List.length_append, List.length_replicate]
    simp only [List.size_toArray]
    omega
end
set_option maxHeartbeats 8000000 in
set_option maxRecDepth 100000 in
theorem impl_bitten.calls (k : Nat) (A0 : Option Addr) (c0 : Nat) (l0 : List Int) (a1 : Int) (a2 : Int) (r : List Int) (w : World) (hr0 : Kd.C (Kd.int .i64) w A0 l0.length l0) (hc0 : l0.length ≤ c0) (h : impl_bitten.f k l0 a1 a2 = some r) :
    Calls Try.prog 55 #[.slice A0 l0.length c0, .int .i64 a1, .int .i64 a2] w fun e w' => ∃ v0_ : Value, e = .returned (v0_) ∧ Kd.R (Kd.int .i64) 3 w' w.heap.size (fun _ => True) v0_ r ∧ Below w.heap.size w w' := by
  have HR0 := Aside0.mk hr0
  have HC0 := Aside0.mk hc0
  clear hr0 hc0
  have HB := Aside0.mk (Below.refl w.heap.size w)
  have H : ((slices_Clone_int_int.f l0).bind fun t329 => (impl_bitten.l0 k a1 t329 a2)) = some r := h
  clear h
  replace H := Option.bind_eq_some_iff.mp H
  obtain ⟨t329, A40, H⟩ := H
  replace H : (impl_bitten.l0 k a1 t329 a2) = some r := H
  have A4 := Aside0.mk A40
  clear A40
  have H' := Aside0.mk H
  clear H
  go_enter Try.func55, Try.ntmps55
  go_wp2_with (first | ((with_reducible refine gate_callee (f := 69) rfl ?_); refine goesL_ (some 10) rfl rfl Try.func69 (by kernel_rfl) rfl #[.slice A0 l0.length c0] rfl (by (try simp only [List.map_toArray, List.map_cons, List.map_nil]); first | done | rfl | (simp only [List.length_drop, List.length_take]; rfl)) ?_; (with_reducible refine (slices_Clone_int_int.calls _ _ l0 t329 _ ?side1 ?side2 A4.out).mono ?_); (case side1 => repeat (first | exact HR0.out | (with_reducible refine Kd.C_alloc ?_ _) | (with_reducible refine Kd.C_drewN ?_ _) | (with_reducible refine Kd.C_drew ?_))); (case side2 => exact HC0.out); rintro e w5 ⟨v330, rfl, ho0, hb⟩; refine ⟨_, rfl, ?_⟩; have n0_ := Aside0.mk (Kd.R_lower ho0 (below_size (by repeat (first | (with_reducible first | exact HB.out | apply below_alloc | apply pw_below_drewN | apply below_drew1) | exact HB.out)))); have n1_ := Aside0.mk (below_step (by repeat (first | (with_reducible first | exact HB.out | apply below_alloc | apply pw_below_drewN | apply below_drew1) | exact HB.out)) hb); clear HB; have HO331 := n0_; have HB := n1_; clear n0_ n1_; (try clear hb); (try clear hb2); (try clear hk); (try clear hi); (try clear ho0)))
  go_loopg [8] k (fun kq v8 w' => ∃ (x7_1 : List Int) (x8_1 : Int), v8 = .int .i64 x8_1 ∧ Aside0 (impl_bitten.l0 kq a1 x7_1 x8_1 = some r) ∧ Aside0 (kq ≤ k) ∧ Aside0 (Kd.R (Kd.int .i64) 3 w' w.heap.size (fun _ => True) v330 x7_1) ∧ Aside0 (Below w.heap.size w w'))
  case atStart => exact ⟨(t329), (a2), (by first | rfl | (simp; done) | (simp [*]; done)), H', ⟨Nat.le_refl _⟩, ⟨by (with_reducible repeat (first | apply Kd.R_alloc | apply Kd.R_drewN | apply Kd.R_drew)); exact HO331.out⟩, ⟨by repeat (first | (with_reducible first | exact HB.out | apply below_alloc | apply pw_below_drewN | apply below_drew1) | exact HB.out)⟩⟩
  case round =>
    clear H'
    try clear p2
    try clear c5
    obtain ⟨x7_1, x8_1, rfl, HA, HK1, HO_7, HB⟩ := hrel
    cases gk with
    | zero => exact absurd HA.out (by simp [impl_bitten.l0])
    | succ k1 =>
      have H := HA.out
      clear HA
      simp only [impl_bitten.l0] at H
      by_cases c6 : x8_1 < (x7_1.length : Int)
      · rw [if_pos c6] at H
        have c6b0 : decide (x8_1 < (x7_1.length : Int)) = true := decide_eq_true c6
        clear c6
        by_cases c7 : 0 ≤ x8_1
        · rw [if_pos c7] at H
          have c7b0 : decide (0 ≤ x8_1) = true := decide_eq_true c7
          clear c7
          obtain ⟨ji8, hji8⟩ : ∃ j_ : Int, (mn (rd x7_1 x8_1) a1) = j_ := ⟨_, rfl⟩
          replace H : (impl_bitten.l0 k1 a1 (x7_1.set (x8_1 : Int).toNat (ji8)) (wrap64 (x8_1 + 1))) = some r := by first | (rw [hji8] at H; exact H) | (simp only [hji8] at H ⊢; exact H)
          have hji8_ : (if a1 < (rd x7_1 x8_1) then a1 else (rd x7_1 x8_1)) = ji8 := hji8
          obtain ⟨y333, hy333⟩ : ∃ y_ : List Int, y_ = (x7_1.set (x8_1 : Int).toNat (ji8)) := ⟨_, rfl⟩
          replace H : (impl_bitten.l0 k1 a1 y333 (wrap64 (x8_1 + 1))) = some r := by first | (rw [hy333]; with_reducible exact H) | (have H2_ := (Option.bind_some _ _).symm.trans H; rw [hy333]; with_reducible exact H2_) | (have H2_ := (Option.bind_some _ _).symm.trans H; with_reducible exact H2_) | with_reducible exact H | (rw [hy333]; exact H) | exact H
          have Ny333 := Aside0.mk hy333
          clear hy333
          have H' := Aside0.mk H
          clear H
          obtain ⟨Ao10, co10, eo10⟩ := Kd.R_slice HO_7.out
          subst eo10
          have p332 : 0 ≤ (x8_1 : Int) := of_decide_eq_true (by first | (with_reducible assumption) | assumption)
          have q332 : x8_1 < (x7_1.length : Int) := of_decide_eq_true (by first | (with_reducible assumption) | assumption)
          obtain ⟨ad332, e332, hx332_0⟩ := Kd.at_int (Kd.R_reads' HO_7.out).2.2 x8_1 p332 q332
          cases e332
          replace p332 := eq_true p332
          replace q332 := eq_true q332
          have p9 : 0 ≤ (x8_1 : Int) := of_decide_eq_true (by first | (with_reducible assumption) | assumption)
          have q9 : (x8_1 : Int) < ((x7_1.length : Int) : Int) := of_decide_eq_true (by first | (with_reducible assumption) | assumption)
          obtain ⟨go9, co9, eo9, gb9, gl9, cl9, HG9⟩ := Kd.R_form HO_7.out (by omega)
          (first | cases eo9 | (injection eo9 with ea_ en_ ec_; (first | subst ea_ | (injection ea_ with ea_; subst ea_)); subst ec_; clear en_))
          have GB9 := Aside0.mk gb9
          have GG9 := Aside0.mk HG9
          clear gb9 gl9 HG9
          (first | simp only [add_plain] at hx332_0 | skip)
          obtain ⟨hx9_0, hf9_0⟩ := Kd.R_celln 0 HO_7.out (x8_1 : Int) p9 q9
          replace p9 := eq_true p9
          replace q9 := eq_true q9
          have HP11 := Kd.R_putg HO_7.out (x8_1 : Int) ji8
          go_wp2_with (first | ((with_reducible refine gate_store (t := 3) (p := 26) rfl ?_); refine store_event (t := 3) (p := 26) (v := ?vo_w12) (w1 := (wr.setCell ⟨go9, (x8_1 : Int).toNat, none⟩ (.int .i64 ji8))) ?hg ?ho ?hn ?hr ?_; (case ho => rfl); (case hg => rfl); (case hn => rfl); (case hr => first | (go_simp; done) | (go_simp; rfl)); intro w12 hw; have hg : wr.grownBy w12 (some go9) := (by rw [hw]; exact HP11.2); have hp_ : Kd.R (Kd.int .i64) 3 w12 w.heap.size (fun _ => True) (.slice (some ⟨go9, 0, none⟩) x7_1.length co10) y333 := (by rw [hw, Ny333.out]; exact HP11.1); clear HP11; have n0_ := Aside0.mk (hp_); have n1_ := Aside0.mk ((by rw [hw]; exact below_set (HB.out) GB9.out : Below w.heap.size w w12)); clear HO_7; clear HB; have HO_7 := n0_; have HB := n1_; clear n0_ n1_; clear hg hw hp_))
          go_roundg k1
          case measure => have := HK1.out; omega
          case rel => exact ⟨(y333), (wrap64 (x8_1 + 1)), (by first | rfl | (simp; done) | (simp [*]; done)), H', ⟨by have := HK1.out; omega⟩, ⟨by (with_reducible repeat (first | apply Kd.R_alloc | apply Kd.R_drewN | apply Kd.R_drew)); exact HO_7.out⟩, ⟨by repeat (first | (with_reducible first | exact HB.out | apply below_alloc | apply pw_below_drewN | apply below_drew1) | exact HB.out)⟩⟩
        · rw [if_neg c7] at H
          exact absurd H (by simp)
      · rw [if_neg c6] at H
        have c6b0 : decide (x8_1 < (x7_1.length : Int)) = false := decide_eq_false c6
        clear c6
        by_cases c9 : 0 < x7_1.length
        · rw [if_pos c9] at H
          obtain rfl := Option.some.inj H
          obtain ⟨Ao13, co13, eo13⟩ := Kd.R_slice HO_7.out
          subst eo13
          have DEL := Lib.hid (fun W => impl_bitten.del (W := W) (.slice Ao13 x7_1.length co13) x7_1 w.heap.size w c9)
          clear c9
          go_wp2_with (go_at_call 70; refine (DEL.out _ (by (with_reducible repeat (first | apply Kd.R_alloc | apply Kd.R_drewN | apply Kd.R_drew)); exact HO_7.out) (by repeat (first | (with_reducible first | exact HB.out | apply below_alloc | apply pw_below_drewN | apply below_drew1) | exact HB.out))).mono ?_; rintro e w9 ⟨v9, rfl, ho9, hb9⟩; have HO9 := Aside0.mk ho9; have HB9 := Aside0.mk hb9; clear ho9 hb9)
          go_ret
          exact ⟨_, rfl, by (with_reducible repeat (first | apply Kd.R_alloc | apply Kd.R_drewN | apply Kd.R_drew)); exact HO9.out, by repeat (first | (with_reducible first | exact HB9.out | apply below_alloc | apply pw_below_drewN | apply below_drew1) | exact HB9.out)⟩
        · rw [if_neg c9] at H
          exact absurd H (by simp)
end Go.Proofs.Ytfppdfphbphhhaa.P
