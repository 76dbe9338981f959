/- impl.LeastToEat: what the call comes to. Conditions: as it states. -/
import Derived.Test.YthlnpbdjblocfaaOEat
import Derived.Test.YthlnpbdjblocfaaUBar
import Derived.Laws.EntriesVeiled
namespace Go.Proofs.Ythlnpbdjblocfaa.P
open Go.RowKit Go.Proofs.YthlnpbdjblocfaaW.PrintWords Go.Proofs.YthlnpbdjblocfaaW.PrintLast Go.Proofs.YthlnpbdjblocfaaW.PrintMore Go.Proofs.Ythlnpbdjblocfaa.Pure Go.Proofs.Ythlnpbdjblocfaa.Mem
set_option linter.unusedVariables false
set_option linter.unusedSimpArgs false
theorem old_allocE {W : World} {k : Nat} {o' : Obj} (h : W.heap[k]? = some o') (o : Obj) : (W.alloc o).heap[k]? = some o' := (Below.heap_alloc W o k (blk_lt h)).trans h
def impl_LeastToEat.f (a0_0 : Int) (a0_1 : Int) (a1 : Int) : Option (Int × Bool) := if goodB a0_0 a0_1 = true then (if 0 ≤ a1 ∧ a1 ≤ a0_0 * a0_1 then some (rd (eat (a0_0.toNat, a0_1.toNat)) a1, true) else some (0, false)) else some (0, false)
set_option maxHeartbeats 8000000 in
set_option maxRecDepth 100000 in
theorem impl_LeastToEat.calls (a0_0 : Int) (a0_1 : Int) (a1 : Int) (r1 : Int) (r2 : Bool) (w : World) (h : impl_LeastToEat.f a0_0 a0_1 a1 = some (r1, r2)) :
    Calls Try.prog 16 #[.agg #[.int .i64 a0_0, .int .i64 a0_1], .int .i64 a1] w fun e w' => e = .returned (.tuple #[.int .i64 r1, .bool r2]) ∧ Below w.heap.size w w' := by
  unfold impl_LeastToEat.f at h
  have ISB := isBar_some a0_0 a0_1
  have HB := Aside0.mk (Below.refl w.heap.size w)
  cases hg : goodB a0_0 a0_1 with
  | false =>
    rw [hg] at h ISB
    simp only [Bool.false_eq_true, if_false, Option.some.injEq, Prod.mk.injEq] at h
    obtain ⟨rfl, rfl⟩ := h
    have HI := Aside0.mk ISB
    clear ISB hg
    go_enter Try.func16, Try.ntmps16
    go_wp2_with (first | ((with_reducible refine gate_dst (N := 2) rfl ?_); refine box_event ?hg (N := 2) ?hd (cs := #[.int .i64 a0_0, .int .i64 a0_1]) (t := 26) ?hr ?_; (case hd => rfl); (case hg => rfl); (case hr => first | (go_simp; done) | (go_simp; rfl)); intro g2 hg w4 hbox hb; have BK2 := Aside0.mk hbox; have n0_ := Aside0.mk (below_step HB.out hb); clear HB hb hbox hg; have HB := n0_; clear n0_; have h2_0_w4 : w4.cell? ⟨g2, 0, none⟩ = some (.int .i64 a0_0) := (blk_cell BK2.out 0).trans rfl; have h2_1_w4 : w4.cell? ⟨g2, 1, none⟩ = some (.int .i64 a0_1) := (blk_cell BK2.out 1).trans rfl) | (go_at_call 36; refine (impl_isBar.calls _ _ _ _ HI.out).mono ?_; rintro e w6 ⟨rfl, hb⟩; have n0_ := Aside0.mk (below_step HB.out hb); have n1_ := Aside0.mk (blk_below BK2.out hb); clear HB BK2 hb; have HB := n0_; have BK2 := n1_; clear n0_ n1_; have h2_0_w6 : w6.cell? ⟨g2, 0, none⟩ = some (.int .i64 a0_0) := (blk_cell BK2.out 0).trans rfl; have h2_1_w6 : w6.cell? ⟨g2, 1, none⟩ = some (.int .i64 a0_1) := (blk_cell BK2.out 1).trans rfl))
    go_ret2
    exact ⟨rfl, HB.out⟩
  | true =>
    rw [hg, if_pos rfl] at h
    rw [hg] at ISB
    have hgb := goodB_true hg
    obtain ⟨a, rfl⟩ : ∃ a : Nat, a0_0 = (a : Int) := ⟨a0_0.toNat, by omega⟩
    obtain ⟨b, rfl⟩ : ∃ b : Nat, a0_1 = (b : Int) := ⟨a0_1.toNat, by omega⟩
    rw [Int.toNat_natCast, Int.toNat_natCast] at h
    have ok : OkB (a, b) := ⟨by show 1 ≤ a; omega, by show a ≤ 12; omega, by show 1 ≤ b; omega, by show b ≤ 12; omega⟩
    have HI := Aside0.mk ISB
    have HSQ := Aside0.mk (squares_nat (a := a) (b := b) (by omega) (by omega))
    obtain ⟨ab, hab⟩ : ∃ ab, arB (a, b) = ab := ⟨_, rfl⟩
    rw [show a * b = ab from hab] at HSQ
    rw [← Int.natCast_mul, show a * b = ab from hab] at h
    have har := ok.area
    rw [hab] at har
    have WI := within_some a1 0 (ab : Int)
    have HOK := Aside0.mk ok
    by_cases hin : 0 ≤ a1 ∧ a1 ≤ (ab : Int)
    · rw [if_pos hin] at h
      simp only [Option.some.injEq, Prod.mk.injEq] at h
      obtain ⟨hr, rfl⟩ := h
      rw [decide_eq_true hin] at WI
      have HWI := Aside0.mk WI
      obtain ⟨t, rfl⟩ : ∃ t : Nat, a1 = (t : Int) := ⟨a1.toNat, by omega⟩
      have HRD := Aside0.mk hr
      obtain ⟨la, hla⟩ : ∃ la, ab + 1 = la := ⟨_, rfl⟩
      have HLA := Aside0.mk (show arB (a, b) + 1 = la by omega)
      have t0 : (0 : Int) ≤ (t : Int) := by omega
      have t1 : (t : Int) < (la : Int) := by omega
      have t2 : t < la := by omega
      have hmk := fun W => run_makeMap (P := Try.prog) 54 W
      clear WI hin hr hla har hab ok hgb hg ISB
      go_enter Try.func16, Try.ntmps16
      go_wp2_with (first | ((with_reducible refine gate_dst (N := 2) rfl ?_); refine box_event ?hg (N := 2) ?hd (cs := #[.int .i64 (a : Int), .int .i64 (b : Int)]) (t := 26) ?hr ?_; (case hd => rfl); (case hg => rfl); (case hr => first | (go_simp; done) | (go_simp; rfl)); intro g2 hg w4 hbox hb; have BK2 := Aside0.mk hbox; have n0_ := Aside0.mk (below_step HB.out hb); clear HB hb hbox hg; have HB := n0_; clear n0_; have h2_0_w4 : w4.cell? ⟨g2, 0, none⟩ = some (.int .i64 (a : Int)) := (blk_cell BK2.out 0).trans rfl; have h2_1_w4 : w4.cell? ⟨g2, 1, none⟩ = some (.int .i64 (b : Int)) := (blk_cell BK2.out 1).trans rfl) | (go_at_call 36; refine (impl_isBar.calls _ _ _ _ HI.out).mono ?_; rintro e w6 ⟨rfl, hb⟩; have n0_ := Aside0.mk (below_step HB.out hb); have n1_ := Aside0.mk (blk_below BK2.out hb); clear HB BK2 hb; have HB := n0_; have BK2 := n1_; clear n0_ n1_; have h2_0_w6 : w6.cell? ⟨g2, 0, none⟩ = some (.int .i64 (a : Int)) := (blk_cell BK2.out 0).trans rfl; have h2_1_w6 : w6.cell? ⟨g2, 1, none⟩ = some (.int .i64 (b : Int)) := (blk_cell BK2.out 1).trans rfl) | (go_at_call 38; refine (impl_Bar_squares.calls _ _ _ _ HSQ.out).mono ?_; rintro e w7 ⟨rfl, hb⟩; have n0_ := Aside0.mk (below_step HB.out hb); have n1_ := Aside0.mk (blk_below BK2.out hb); clear HB BK2 hb; have HB := n0_; have BK2 := n1_; clear n0_ n1_; have h2_0_w7 : w7.cell? ⟨g2, 0, none⟩ = some (.int .i64 (a : Int)) := (blk_cell BK2.out 0).trans rfl; have h2_1_w7 : w7.cell? ⟨g2, 1, none⟩ = some (.int .i64 (b : Int)) := (blk_cell BK2.out 1).trans rfl) | (go_at_call 37; refine (impl_within.calls _ _ _ _ _ HWI.out).mono ?_; rintro e w8 ⟨rfl, hd⟩; have hb := hd.below; clear hd; have n0_ := Aside0.mk (below_step HB.out hb); have n1_ := Aside0.mk (blk_below BK2.out hb); clear HB BK2 hb; have HB := n0_; have BK2 := n1_; clear n0_ n1_; have h2_0_w8 : w8.cell? ⟨g2, 0, none⟩ = some (.int .i64 (a : Int)) := (blk_cell BK2.out 0).trans rfl; have h2_1_w8 : w8.cell? ⟨g2, 1, none⟩ = some (.int .i64 (b : Int)) := (blk_cell BK2.out 1).trans rfl; have h2_0a_w8 : ∀ o : Obj, (w8.alloc o).cell? ⟨g2, 0, none⟩ = some (.int .i64 (a : Int)) := fun o => (blk_cell (old_allocE BK2.out o) 0).trans rfl; have h2_1a_w8 : ∀ o : Obj, (w8.alloc o).cell? ⟨g2, 1, none⟩ = some (.int .i64 (b : Int)) := fun o => (blk_cell (old_allocE BK2.out o) 1).trans rfl) | (go_at_call 39; refine (eat_any (M := w8.heap.size) (w0 := w) (a + b) a b HOK.out (Nat.le_refl _) (fun _ => True) _ (fun _ _ => trivial) ?he_).mono ?_; (case he_ => exact ⟨below_alloc HB.out _, below_size HB.out, Memo.made _ _ _ _ _ _⟩); rintro e w9 ⟨g9, c9, rfl, hgr, henv, hrow⟩; rw [HLA.out] at hrow ⊢; have hcx := (cell_rd hrow t (by omega)).1; rw [HRD.out] at hcx; have HE := Aside0.mk henv; clear hgr henv hrow))
      go_ret2
      exact ⟨rfl, HE.out.below⟩
    · rw [if_neg hin] at h
      simp only [Option.some.injEq, Prod.mk.injEq] at h
      obtain ⟨rfl, rfl⟩ := h
      rw [decide_eq_false hin] at WI
      have HWI := Aside0.mk WI
      clear WI hin har hab ok hgb hg ISB
      go_enter Try.func16, Try.ntmps16
      go_wp2_with (first | ((with_reducible refine gate_dst (N := 2) rfl ?_); refine box_event ?hg (N := 2) ?hd (cs := #[.int .i64 (a : Int), .int .i64 (b : Int)]) (t := 26) ?hr ?_; (case hd => rfl); (case hg => rfl); (case hr => first | (go_simp; done) | (go_simp; rfl)); intro g2 hg w4 hbox hb; have BK2 := Aside0.mk hbox; have n0_ := Aside0.mk (below_step HB.out hb); clear HB hb hbox hg; have HB := n0_; clear n0_; have h2_0_w4 : w4.cell? ⟨g2, 0, none⟩ = some (.int .i64 (a : Int)) := (blk_cell BK2.out 0).trans rfl; have h2_1_w4 : w4.cell? ⟨g2, 1, none⟩ = some (.int .i64 (b : Int)) := (blk_cell BK2.out 1).trans rfl) | (go_at_call 36; refine (impl_isBar.calls _ _ _ _ HI.out).mono ?_; rintro e w6 ⟨rfl, hb⟩; have n0_ := Aside0.mk (below_step HB.out hb); have n1_ := Aside0.mk (blk_below BK2.out hb); clear HB BK2 hb; have HB := n0_; have BK2 := n1_; clear n0_ n1_; have h2_0_w6 : w6.cell? ⟨g2, 0, none⟩ = some (.int .i64 (a : Int)) := (blk_cell BK2.out 0).trans rfl; have h2_1_w6 : w6.cell? ⟨g2, 1, none⟩ = some (.int .i64 (b : Int)) := (blk_cell BK2.out 1).trans rfl) | (go_at_call 38; refine (impl_Bar_squares.calls _ _ _ _ HSQ.out).mono ?_; rintro e w7 ⟨rfl, hb⟩; have n0_ := Aside0.mk (below_step HB.out hb); have n1_ := Aside0.mk (blk_below BK2.out hb); clear HB BK2 hb; have HB := n0_; have BK2 := n1_; clear n0_ n1_; have h2_0_w7 : w7.cell? ⟨g2, 0, none⟩ = some (.int .i64 (a : Int)) := (blk_cell BK2.out 0).trans rfl; have h2_1_w7 : w7.cell? ⟨g2, 1, none⟩ = some (.int .i64 (b : Int)) := (blk_cell BK2.out 1).trans rfl) | (go_at_call 37; refine (impl_within.calls _ _ _ _ _ HWI.out).mono ?_; rintro e w8 ⟨rfl, hd⟩; have hb := hd.below; clear hd; have n0_ := Aside0.mk (below_step HB.out hb); have n1_ := Aside0.mk (blk_below BK2.out hb); clear HB BK2 hb; have HB := n0_; have BK2 := n1_; clear n0_ n1_; have h2_0_w8 : w8.cell? ⟨g2, 0, none⟩ = some (.int .i64 (a : Int)) := (blk_cell BK2.out 0).trans rfl; have h2_1_w8 : w8.cell? ⟨g2, 1, none⟩ = some (.int .i64 (b : Int)) := (blk_cell BK2.out 1).trans rfl; have h2_0a_w8 : ∀ o : Obj, (w8.alloc o).cell? ⟨g2, 0, none⟩ = some (.int .i64 (a : Int)) := fun o => (blk_cell (old_allocE BK2.out o) 0).trans rfl; have h2_1a_w8 : ∀ o : Obj, (w8.alloc o).cell? ⟨g2, 1, none⟩ = some (.int .i64 (b : Int)) := fun o => (blk_cell (old_allocE BK2.out o) 1).trans rfl))
      go_ret2
      exact ⟨rfl, HB.out⟩
end Go.Proofs.Ythlnpbdjblocfaa.P
