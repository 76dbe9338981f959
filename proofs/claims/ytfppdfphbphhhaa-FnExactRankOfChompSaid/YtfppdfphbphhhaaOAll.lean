/- spec.cmAll, impl.chomps: what the calls come to: all chomps in a bar, in order. Conditions: sides of 1 to 6. -/
import Derived.Test.YtfppdfphbphhhaaOLook
import Derived.Test.YtfppdfphbphhhaaOChomps
import Derived.Laws.EntriesVeiled
namespace Go.Proofs.Ytfppdfphbphhhaa.P
open Go.RowKit Go.Proofs.YtfppdfphbphhhaaW.PrintWords Go.Proofs.YtfppdfphbphhhaaW.PrintLast Go.Proofs.YtfppdfphbphhhaaW.PrintMore
set_option linter.unusedVariables false
theorem old_alloc {W : World} {k : Nat} {o' : Obj} (h : W.heap[k]? = some o') (o : Obj) : (W.alloc o).heap[k]? = some o' := (Below.heap_alloc W o k (blk_lt h)).trans h
theorem gen_few (r most : Nat) (hr : r ≤ 6) (hm : most ≤ 6) : (gen r most []).length ≤ 1000000 := by
  have h : ∀ r : Fin 7, ∀ m : Fin 7, (gen r.1 m.1 []).length ≤ 1000000 := by decide +kernel
  exact h ⟨r, by omega⟩ ⟨most, by omega⟩
def spec_cmAll.f (a0 : Int) (a1 : Int) : Option (List (List Int)) := if (0 ≤ a0 ∧ a0 ≤ 6) ∧ 0 ≤ a1 ∧ a1 ≤ 6 then some (gen a1.toNat a0.toNat []) else none
set_option maxHeartbeats 4000000 in
set_option maxRecDepth 100000 in
theorem spec_cmAll.calls (a0 : Int) (a1 : Int) (r : List (List Int)) (w : World) (h : spec_cmAll.f a0 a1 = some r) :
    Calls Try.prog 56 #[.int .i64 a0, .int .i64 a1] w fun e w' => ∃ v0_ : Value, e = .returned (v0_) ∧ Kd.R (Kd.slice 3 (Kd.int .i64)) 22 w' w.heap.size (fun _ => True) v0_ r ∧ Below w.heap.size w w' := by
  unfold spec_cmAll.f at h
  by_cases hc : (0 ≤ a0 ∧ a0 ≤ 6) ∧ 0 ≤ a1 ∧ a1 ≤ 6
  case neg =>
    rw [if_neg hc] at h
    cases h
  rw [if_pos hc] at h
  cases h
  have LK := Lib.hid (look_any w.heap.size (w.heap.size + 1) a1.toNat a0.toNat a1 a0 (by omega) (by omega) [] (.slice none 0 0) [] (.slice none 0 0) w (w.alloc (.cells #[.slice none 0 0] 35)) w.heap.size (by omega) (Nat.le_refl _) (below_alloc (Below.refl _ _) _) (by simp) ⟨heap_alloc_new _ _, Kd.R_nil _ _ _ _ _⟩ (Kd.R_nil _ _ _ _ _) (by simp; omega) (by omega) (by have := gen_few a1.toNat a0.toNat (by omega) (by omega); simpa using this))
  clear hc
  go_enter Try.func56, Try.ntmps56
  go_wp2_with (go_at_call 72; refine LK.out.mono ?_; rintro e w2 ⟨rfl, v', ho, hat, hb, hk⟩; have hcell : w2.cell? ⟨w.heap.size, 0, none⟩ = some v' := (by rw [blk_cell ho.box]; rfl); have HO := Lib.hid ho; have HB := Lib.hid hb; clear ho hat hb hk LK)
  go_ret
  exact ⟨_, rfl, Kd.R_lower HO.out.row (Nat.le_succ _), HB.out⟩
def impl_chomps.f (a0 : Int) (a1 : Int) : Option (List (List Int)) := if (0 ≤ a0 ∧ a0 ≤ 6) ∧ 0 ≤ a1 ∧ a1 ≤ 6 then some (gen a1.toNat a0.toNat []) else none
set_option maxHeartbeats 4000000 in
set_option maxRecDepth 100000 in
theorem impl_chomps.calls (a0 : Int) (a1 : Int) (r : List (List Int)) (w : World) (h : impl_chomps.f a0 a1 = some r) :
    Calls Try.prog 57 #[.int .i64 a0, .int .i64 a1] w fun e w' => ∃ v0_ : Value, e = .returned (v0_) ∧ Kd.R (Kd.slice 3 (Kd.int .i64)) 22 w' w.heap.size (fun _ => True) v0_ r ∧ Below w.heap.size w w' := by
  unfold impl_chomps.f at h
  by_cases hc : (0 ≤ a0 ∧ a0 ≤ 6) ∧ 0 ≤ a1 ∧ a1 ≤ 6
  case neg =>
    rw [if_neg hc] at h
    cases h
  rw [if_pos hc] at h
  cases h
  obtain ⟨Y, hY⟩ : ∃ Y : World, Y = ((((w.alloc (.cells #[.int .i64 a1] 3)).alloc (.cells #[] 22)).alloc (.cells #[.slice (some ⟨w.heap.size + 1, 0, none⟩) 0 0] 35)).alloc (.cells #[.func (.func 73) #[] #[.pointer (some ⟨w.heap.size + 1 + 1, 0, none⟩), .pointer (some ⟨w.heap.size, 0, none⟩), .pointer (some ⟨w.heap.size + 1 + 1 + 1, 0, none⟩)]] 61)) := ⟨_, rfl⟩
  have y3 : Y.heap[w.heap.size + 1 + 1 + 1]? = some (.cells #[.func (.func 73) #[] #[.pointer (some ⟨w.heap.size + 1 + 1, 0, none⟩), .pointer (some ⟨w.heap.size, 0, none⟩), .pointer (some ⟨w.heap.size + 1 + 1 + 1, 0, none⟩)]] 61 (0, 0)) := by
    rw [hY]
    have := heap_alloc_new (((w.alloc (.cells #[.int .i64 a1] 3)).alloc (.cells #[] 22)).alloc (.cells #[.slice (some ⟨w.heap.size + 1, 0, none⟩) 0 0] 35)) (.cells #[.func (.func 73) #[] #[.pointer (some ⟨w.heap.size + 1 + 1, 0, none⟩), .pointer (some ⟨w.heap.size, 0, none⟩), .pointer (some ⟨w.heap.size + 1 + 1 + 1, 0, none⟩)]] 61)
    simpa using this
  have y2 : Y.heap[w.heap.size + 1 + 1]? = some (.cells #[.slice (some ⟨w.heap.size + 1, 0, none⟩) 0 0] 35 (0, 0)) := by
    rw [hY]
    have h1 := heap_alloc_new ((w.alloc (.cells #[.int .i64 a1] 3)).alloc (.cells #[] 22)) (.cells #[.slice (some ⟨w.heap.size + 1, 0, none⟩) 0 0] 35)
    exact old_alloc (by simpa using h1) _
  have y1 : Y.heap[w.heap.size + 1]? = some (.cells #[] 22 (0, 0)) := by
    rw [hY]
    have h1 := heap_alloc_new (w.alloc (.cells #[.int .i64 a1] 3)) (.cells #[] 22)
    exact old_alloc (old_alloc (by simpa using h1) _) _
  have y0 : Y.heap[w.heap.size]? = some (.cells #[.int .i64 a1] 3 (0, 0)) := by
    rw [hY]
    exact old_alloc (old_alloc (old_alloc (heap_alloc_new w (.cells #[.int .i64 a1] 3)) _) _) _
  have hBY : Below w.heap.size w Y := by rw [hY]; exact below_alloc (below_alloc (below_alloc (below_alloc (Below.refl _ _) _) _) _) _
  have hsY : w.heap.size + 1 ≤ Y.heap.size := by have := blk_lt y1; omega
  have rowY : Kd.R (Kd.slice 3 (Kd.int .i64)) 22 Y (w.heap.size + 1) (fun _ => True) (.slice (some ⟨w.heap.size + 1, 0, none⟩) 0 0) [] := ⟨fun _ _ => trivial, [], ⟨rfl, .inr ⟨w.heap.size + 1, 0, #[], rfl, Nat.le_refl _, y1, Nat.le_refl _, by decide, rfl, rfl⟩⟩, Reps.none _ _⟩
  have AD0 := add_any (w.heap.size + 1 + 1) w.heap.size (w.heap.size + 1 + 1 + 1) (w.heap.size + 1) (by omega) (by omega) (by omega) a1 a1.toNat a0.toNat a0 (by omega) [] (.slice none 0 0) [] _ w Y w.heap.size (by omega) (by omega) hBY hsY ⟨y2, rowY⟩ (Kd.R_nil _ _ _ _ _) (by simp; omega) (by omega) (by simp; omega) (by rw [blk_cell y0]; rfl) y3 (by have := gen_few a1.toNat a0.toNat (by omega) (by omega); simpa using this)
  rw [hY] at AD0
  have AD := Lib.hid AD0
  clear AD0 hBY hc y3 y2 y1 y0 hsY rowY
  clear hY Y
  go_enter Try.func57, Try.ntmps57
  go_wp2_with (first | (go_at_call 73; refine AD.out.mono ?_; rintro e w2 ⟨rfl, v', ho, hat, hb, hk⟩; have hcell : w2.cell? ⟨w.heap.size + 1 + 1, 0, none⟩ = some v' := (by rw [blk_cell ho.box]; rfl); have HO := Lib.hid ho; have HB := Lib.hid hb; clear ho hat hb hk AD))
  go_ret
  exact ⟨_, rfl, Kd.R_lower HO.out.row (Nat.le_succ _), HB.out⟩
end Go.Proofs.Ytfppdfphbphhhaa.P
