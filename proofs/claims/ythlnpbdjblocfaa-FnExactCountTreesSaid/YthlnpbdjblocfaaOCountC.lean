/- impl.breakings, impl.counted: what the calls come to. Conditions: as each states. -/
import Derived.Test.YthlnpbdjblocfaaOCount
import Derived.Test.YthlnpbdjblocfaaUBar
import Derived.Laws.EntriesVeiled
namespace Go.Proofs.Ythlnpbdjblocfaa.P
open Go.RowKit Go.Proofs.YthlnpbdjblocfaaW.PrintWords Go.Proofs.YthlnpbdjblocfaaW.PrintLast Go.Proofs.YthlnpbdjblocfaaW.PrintMore Go.Proofs.Ythlnpbdjblocfaa.Pure Go.Proofs.Ythlnpbdjblocfaa.Mem
set_option linter.unusedVariables false
set_option linter.unusedSimpArgs false
theorem old_alloc {W : World} {k : Nat} {o' : Obj} (h : W.heap[k]? = some o') (o : Obj) : (W.alloc o).heap[k]? = some o' := (Below.heap_alloc W o k (blk_lt h)).trans h
set_option maxHeartbeats 4000000 in
set_option maxRecDepth 100000 in
theorem breakings_calls (ord : Bool) (w0 w : World) (h0 : Below w0.heap.size w0 w) :
    Calls Try.prog 57 #[.bool ord] w fun e w' => ∃ Bk Bo Bf M, e = .returned (cntFn Bk Bo Bf) ∧ CntEnv ord Bk Bo Bf M w0 w' ∧ Below w.heap.size w w' := by
  have hmk := fun W => run_makeMap (P := Try.prog) 77 W
  have HB := Aside0.mk h0
  clear h0
  go_enter Try.func57, Try.ntmps57
  go_wp2_with (first | ((with_reducible refine gate_dst (N := 1) rfl ?_); refine box_event ?hg (N := 1) ?hd (cs := #[.bool ord]) (t := 4) ?hr ?_; (case hd => rfl); (case hg => rfl); (case hr => first | (go_simp; done) | (go_simp; rfl)); intro g1 hg w1 hbox hb; have BK1 := Aside0.mk hbox; have HB1 := Aside0.mk (below_step HB.out hb); have HB2 := Aside0.mk hb; clear hb hbox hg HB))
  go_ret
  have hsz : w0.heap.size ≤ w1.heap.size := below_size HB1.out
  refine ⟨w1.heap.size + 1, g1, w1.heap.size + 1 + 1, w1.heap.size, rfl, ⟨old_alloc (by have := heap_alloc_new (w1.alloc (.map #[] 0)) (.cells #[.map (some w1.heap.size)] 77); simpa using this) _, old_alloc (old_alloc (old_alloc BK1.out _) _) _, by have := heap_alloc_new ((w1.alloc (.map #[] 0)).alloc (.cells #[.map (some w1.heap.size)] 77)) (.cells #[cntFn (w1.heap.size + 1) g1 (w1.heap.size + 1 + 1)] 72); simpa using this, below_alloc (below_alloc (below_alloc HB1.out _) _) _, hsz, me_alloc (me_alloc (Memo.made _ _ _ _ _ _) _) _⟩, below_alloc (below_alloc (below_alloc HB2.out _) _) _⟩
def impl_counted.f (a0_0 : Int) (a0_1 : Int) (a1 : Bool) : Option (Int × Bool) := if goodB a0_0 a0_1 = true then (if cnt a1 (a0_0.toNat, a0_1.toNat) > 1000000000000000 then some (0, false) else some (cnt a1 (a0_0.toNat, a0_1.toNat), true)) else some (0, false)
set_option maxHeartbeats 8000000 in
set_option maxRecDepth 100000 in
theorem impl_counted.calls (a0_0 : Int) (a0_1 : Int) (a1 : Bool) (r1 : Int) (r2 : Bool) (w : World) (h : impl_counted.f a0_0 a0_1 a1 = some (r1, r2)) :
    Calls Try.prog 33 #[.agg #[.int .i64 a0_0, .int .i64 a0_1], .bool a1] w fun e w' => e = .returned (.tuple #[.int .i64 r1, .bool r2]) ∧ Below w.heap.size w w' := by
  unfold impl_counted.f at h
  have ISB := isBar_some a0_0 a0_1
  have HB := Aside0.mk (Below.refl w.heap.size w)
  cases hg : goodB a0_0 a0_1 with
  | false =>
    rw [hg] at h ISB
    simp only [Bool.false_eq_true, if_false, Option.some.injEq, Prod.mk.injEq] at h
    obtain ⟨rfl, rfl⟩ := h
    have HI := Aside0.mk ISB
    clear ISB hg
    go_enter Try.func33, Try.ntmps33
    go_wp2_with (first | ((with_reducible refine gate_dst (N := 2) rfl ?_); refine box_event ?hg (N := 2) ?hd (cs := #[.int .i64 a0_0, .int .i64 a0_1]) (t := 26) ?hr ?_; (case hd => rfl); (case hg => rfl); (case hr => first | (go_simp; done) | (go_simp; rfl)); intro g2 hg w4 hbox hb; have BK2 := Aside0.mk hbox; have n0_ := Aside0.mk (below_step HB.out hb); clear HB hb hbox hg; have HB := n0_; clear n0_; have h2_0 : w4.cell? ⟨g2, 0, none⟩ = some (.int .i64 a0_0) := (blk_cell BK2.out 0).trans rfl; have h2_1 : w4.cell? ⟨g2, 1, none⟩ = some (.int .i64 a0_1) := (blk_cell BK2.out 1).trans rfl) | (go_at_call 36; refine (impl_isBar.calls _ _ _ _ HI.out).mono ?_; rintro e w6 ⟨rfl, hb⟩; have n0_ := Aside0.mk (below_step HB.out hb); have n1_ := Aside0.mk (blk_below BK2.out hb); clear HB BK2 hb; have HB := n0_; have BK2 := n1_; clear n0_ n1_; have h2_2 : w6.cell? ⟨g2, 0, none⟩ = some (.int .i64 a0_0) := (blk_cell BK2.out 0).trans rfl; have h2_3 : w6.cell? ⟨g2, 1, none⟩ = some (.int .i64 a0_1) := (blk_cell BK2.out 1).trans rfl))
    go_ret2
    exact ⟨rfl, HB.out⟩
  | true =>
    rw [hg, if_pos rfl] at h
    rw [hg] at ISB
    have hgb := goodB_true hg
    obtain ⟨a, rfl⟩ : ∃ a : Nat, a0_0 = (a : Int) := ⟨a0_0.toNat, by omega⟩
    obtain ⟨b, rfl⟩ : ∃ b : Nat, a0_1 = (b : Int) := ⟨a0_1.toNat, by omega⟩
    rw [Int.toNat_natCast, Int.toNat_natCast] at h
    have ok : OkB (a, b) := ⟨by show 1 ≤ a; omega, by show a ≤ 12; omega, by show 1 ≤ b; omega, by show b ≤ 12; omega⟩
    have HI := Aside0.mk ISB
    have HL := Lib.hid (fun Bk Bo Bf M W (hE : CntEnv a1 Bk Bo Bf M w W) => cnt_any (a + b) a b ok (Nat.le_refl _) W hE)
    have HBR := Lib.hid (fun W (hb : Below w.heap.size w W) => breakings_calls a1 w W hb)
    generalize hc : cnt a1 (a, b) = c at h HL
    by_cases hbig : c > 1000000000000000
    · rw [if_pos hbig] at h
      simp only [Option.some.injEq, Prod.mk.injEq] at h
      obtain ⟨rfl, rfl⟩ := h
      have e1 : decide (1000000000000000 < c) = true := decide_eq_true hbig
      clear ISB hg hgb ok hc hbig
      go_enter Try.func33, Try.ntmps33
      go_wp2_with (first | ((with_reducible refine gate_dst (N := 2) rfl ?_); refine box_event ?hg (N := 2) ?hd (cs := #[.int .i64 (a : Int), .int .i64 (b : Int)]) (t := 26) ?hr ?_; (case hd => rfl); (case hg => rfl); (case hr => first | (go_simp; done) | (go_simp; rfl)); intro g2 hg w4 hbox hb; have BK2 := Aside0.mk hbox; have n0_ := Aside0.mk (below_step HB.out hb); clear HB hb hbox hg; have HB := n0_; clear n0_; have h2_0 : w4.cell? ⟨g2, 0, none⟩ = some (.int .i64 (a : Int)) := (blk_cell BK2.out 0).trans rfl; have h2_1 : w4.cell? ⟨g2, 1, none⟩ = some (.int .i64 (b : Int)) := (blk_cell BK2.out 1).trans rfl) | (go_at_call 36; refine (impl_isBar.calls _ _ _ _ HI.out).mono ?_; rintro e w6 ⟨rfl, hb⟩; have n0_ := Aside0.mk (below_step HB.out hb); have n1_ := Aside0.mk (blk_below BK2.out hb); clear HB BK2 hb; have HB := n0_; have BK2 := n1_; clear n0_ n1_; have h2_2 : w6.cell? ⟨g2, 0, none⟩ = some (.int .i64 (a : Int)) := (blk_cell BK2.out 0).trans rfl; have h2_3 : w6.cell? ⟨g2, 1, none⟩ = some (.int .i64 (b : Int)) := (blk_cell BK2.out 1).trans rfl))
      go_region_held3 (fun w' => w'.cell? ⟨g2, 0, none⟩ = some (.int .i64 (a : Int)) ∧ w'.cell? ⟨g2, 1, none⟩ = some (.int .i64 (b : Int))) (exact ⟨(blk_cell BK2.out 0).trans rfl, (blk_cell BK2.out 1).trans rfl⟩) (first | ((go_at_call 57; refine (HBR.out _ (below_drew HB.out)).mono ?_; rintro e w8 ⟨Bk, Bo, Bf, M, rfl, hE, hb2⟩; have HE := Aside0.mk hE; clear hE; have BK2q := BK2; clear BK2; have BK2 := Aside0.mk (show w8.heap[g2]? = some (.cells #[.int .i64 (a : Int), .int .i64 (b : Int)] 26 (0, 0)) from blk_below (by first | exact blk_drew BK2q.out | exact BK2q.out) hb2); clear BK2q hb2)) | ((go_at_call 66; refine (HL.out _ _ _ _ _ HE.out).mono ?_; rintro e w9 ⟨rfl, hgr, hE⟩; have n0_ := Aside0.mk hE; have n1_ := Aside0.mk (blk_grown (g := g2) (o := .cells #[.int .i64 (a : Int), .int .i64 (b : Int)] 26 (0, 0)) BK2.out hgr (fun e => HE.out.mem.ne BK2.out (Option.some.inj e))); clear HE BK2 hE hgr; have HE := n0_; have BK2 := n1_; clear n0_ n1_)))
      go_wp2
      go_ret2
      exact ⟨rfl, HE.out.below⟩
    · rw [if_neg hbig] at h
      simp only [Option.some.injEq, Prod.mk.injEq] at h
      obtain ⟨rfl, rfl⟩ := h
      have e1 : decide (1000000000000000 < c) = false := decide_eq_false hbig
      clear ISB hg hgb ok hc hbig
      go_enter Try.func33, Try.ntmps33
      go_wp2_with (first | ((with_reducible refine gate_dst (N := 2) rfl ?_); refine box_event ?hg (N := 2) ?hd (cs := #[.int .i64 (a : Int), .int .i64 (b : Int)]) (t := 26) ?hr ?_; (case hd => rfl); (case hg => rfl); (case hr => first | (go_simp; done) | (go_simp; rfl)); intro g2 hg w4 hbox hb; have BK2 := Aside0.mk hbox; have n0_ := Aside0.mk (below_step HB.out hb); clear HB hb hbox hg; have HB := n0_; clear n0_; have h2_0 : w4.cell? ⟨g2, 0, none⟩ = some (.int .i64 (a : Int)) := (blk_cell BK2.out 0).trans rfl; have h2_1 : w4.cell? ⟨g2, 1, none⟩ = some (.int .i64 (b : Int)) := (blk_cell BK2.out 1).trans rfl) | (go_at_call 36; refine (impl_isBar.calls _ _ _ _ HI.out).mono ?_; rintro e w6 ⟨rfl, hb⟩; have n0_ := Aside0.mk (below_step HB.out hb); have n1_ := Aside0.mk (blk_below BK2.out hb); clear HB BK2 hb; have HB := n0_; have BK2 := n1_; clear n0_ n1_; have h2_2 : w6.cell? ⟨g2, 0, none⟩ = some (.int .i64 (a : Int)) := (blk_cell BK2.out 0).trans rfl; have h2_3 : w6.cell? ⟨g2, 1, none⟩ = some (.int .i64 (b : Int)) := (blk_cell BK2.out 1).trans rfl))
      go_region_held3 (fun w' => w'.cell? ⟨g2, 0, none⟩ = some (.int .i64 (a : Int)) ∧ w'.cell? ⟨g2, 1, none⟩ = some (.int .i64 (b : Int))) (exact ⟨(blk_cell BK2.out 0).trans rfl, (blk_cell BK2.out 1).trans rfl⟩) (first | ((go_at_call 57; refine (HBR.out _ (below_drew HB.out)).mono ?_; rintro e w8 ⟨Bk, Bo, Bf, M, rfl, hE, hb2⟩; have HE := Aside0.mk hE; clear hE; have BK2q := BK2; clear BK2; have BK2 := Aside0.mk (show w8.heap[g2]? = some (.cells #[.int .i64 (a : Int), .int .i64 (b : Int)] 26 (0, 0)) from blk_below (by first | exact blk_drew BK2q.out | exact BK2q.out) hb2); clear BK2q hb2)) | ((go_at_call 66; refine (HL.out _ _ _ _ _ HE.out).mono ?_; rintro e w9 ⟨rfl, hgr, hE⟩; have n0_ := Aside0.mk hE; have n1_ := Aside0.mk (blk_grown (g := g2) (o := .cells #[.int .i64 (a : Int), .int .i64 (b : Int)] 26 (0, 0)) BK2.out hgr (fun e => HE.out.mem.ne BK2.out (Option.some.inj e))); clear HE BK2 hE hgr; have HE := n0_; have BK2 := n1_; clear n0_ n1_)))
      go_wp2
      go_ret2
      exact ⟨rfl, HE.out.below⟩
end Go.Proofs.Ythlnpbdjblocfaa.P
