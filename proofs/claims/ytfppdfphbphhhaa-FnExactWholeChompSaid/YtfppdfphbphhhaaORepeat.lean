/- slices.Repeat of a list of one number: what the call comes to, for 1 to 6 times. Conditions: the slice reads as the list. -/
import Derived.Test.YtfppdfphbphhhaaPx0
import Derived.Test.YtfppdfphbphhhaaHCells
import Derived.Laws.CopyOwn
import Derived.Lib.Hide
import Derived.BigRegion
namespace Go.Proofs.Ytfppdfphbphhhaa.P
open Go.RowKit Go.Proofs.YtfppdfphbphhhaaW.PrintWords Go.Proofs.YtfppdfphbphhhaaW.PrintLast Go.Proofs.YtfppdfphbphhhaaW.PrintMore
set_option linter.unusedVariables false
set_option maxHeartbeats 4000000 in
set_option maxRecDepth 100000 in
theorem mul1 (n : Int) (hn : n = 1 ∨ n = 2 ∨ n = 3 ∨ n = 4 ∨ n = 5 ∨ n = 6) (W : World) :
    Calls Try.prog 67 #[.int .u64 1, .int .u64 n] W fun e w' => e = .returned (.tuple #[.int .u64 0, .int .u64 n]) ∧ Drawn0 W w' := by
  rcases hn with rfl | rfl | rfl | rfl | rfl | rfl
  all_goals
    go_enter Try.func67, Try.ntmps67
    go_wp2
    go_ret2
    exact ⟨by kernel_rfl, ⟨0, rfl⟩⟩
def rowk (n : Nat) (x : Int) (k : Nat) : List Value := List.replicate k (.int .i64 x) ++ List.replicate (n - k) (.int .i64 0)
theorem rowk_splice (n : Nat) (x : Int) (k m : Nat) (h : k + m ≤ n) : splice (rowk n x k) k (List.replicate m (.int .i64 x)) = rowk n x (k + m) := by
  unfold splice rowk
  rw [List.take_left' (by simp), List.length_replicate, List.drop_append, List.length_replicate, List.drop_eq_nil_of_le (by simp), List.nil_append, List.drop_replicate, ← List.append_assoc, List.replicate_append_replicate, show n - k - (k + m - k) = n - (k + m) by omega]
theorem rowk_get (n : Nat) (x : Int) (k j : Nat) (h : j < k) : (rowk n x k)[j]? = some (.int .i64 x) := by
  unfold rowk
  rw [List.getElem?_append_left (by simp; omega)]
  simp [h]
theorem one_src {W : World} {b o : Nat} {x : Int} (hc : W.cell? ⟨b, o, none⟩ = some (.int .i64 x)) : ∀ (j : Nat) v, [Value.int .i64 x][j]? = some v → W.cell? ((⟨b, o, none⟩ : Addr).add j) = some v := by
  intro j v hj
  match j, hj with
  | 0, hj =>
    simp at hj
    subst hj
    simpa [Addr.add] using hc
  | j + 1, hj => simp at hj
theorem copy_step {W w : World} {g n k m : Nat} {x : Int} (hg : W.heap[g]? = some (.cells (rowk n x k).toArray 3 (0, 0))) (hm : m = min k (n - k)) (hk : k + m ≤ n) (hB : Below g w W) :
    ∃ w2, (Builtin.copy_ #[22, 22] 3 #[.slice (some ⟨g, k, none⟩) (n - k) (n - k), .slice (some ⟨g, 0, none⟩) k n]).run Try.prog W = .ok (.int .i64 (m : Int)) w2 ∧ Aside0 (w2.heap[g]? = some (.cells (rowk n x (k + m)).toArray 3 (0, 0))) ∧ Aside0 (Below g w w2) := by
  have hlen : (rowk n x k).length = n := by simp [rowk]; omega
  have := run_copy_row (P := Try.prog) W 22 22 3 3 g k (n - k) (n - k) ⟨g, 0, none⟩ k n (rowk n x k).toArray 3 (List.replicate m (.int .i64 x)) Try.underlying22 (by kernel_rfl) hg (by simp [hm]) (fun j v hj => by
      have hjm : j < m := by
        have := (List.getElem?_eq_some_iff.1 hj).1
        simpa using this
      have hv : v = .int .i64 x := by
        rw [List.getElem?_replicate, if_pos hjm] at hj
        exact (Option.some.inj hj).symm
      subst hv
      have h2 := rowk_get n x k j (by omega)
      rw [show (⟨g, 0, none⟩ : Addr).add j = ⟨g, j, none⟩ by simp [Addr.add]; omega]
      simp only [World.cell?, hg]
      simpa using h2) (by simp; omega) (by simp [Value.oneCell'])
  refine ⟨_, by simpa [goInt] using this, ⟨?_⟩, ⟨below_setRow hB (Nat.le_refl _) _⟩⟩
  rw [setRow_heap W g _ _ 3 _ hg, ← rowk_splice n x k m hk]
  simp [splice]
set_option maxHeartbeats 8000000 in
set_option maxRecDepth 100000 in
theorem rep1 (b o : Nat) (c0 : Nat) (x : Int) (w : World) (hc : w.cell? ⟨b, o, none⟩ = some (.int .i64 x)) :
    Calls Try.prog 49 #[.slice (some ⟨b, o, none⟩) 1 c0, .int .i64 1] w fun e w' => ∃ v0_ : Value, e = .returned (v0_) ∧ Kd.R (Kd.int .i64) 3 w' w.heap.size (fun _ => True) v0_ (List.replicate 1 x) ∧ Below w.heap.size w w' := by
  have hmk : ∀ W : World, (Instr.makeSlice 22 (.int .i64 1) (.int .i64 1)).run Try.prog W = .ok (.slice (some ⟨W.heap.size, 0, none⟩) 1 1) (W.alloc (.cells (rowk 1 x 0).toArray 3)) := fun W => by kernel_rfl
  have hb0 := Lib.hid (World.block_lt_of_cell? w _ hc)
  go_enter Try.func49, Try.ntmps49
  go_wp2_with (first | (go_at_call 67; refine (mul1 _ (by decide) _).mono ?_; rintro e w1 ⟨rfl, ⟨nd, rfl⟩⟩) | (with_reducible refine wpList_copy_splice (o := ⟨some 33, _, _, _, _, _⟩) rfl (.tmp 31) (.tmp 32) 22 22 rfl 3 Try.underlying22 (by kernel_rfl) _ _ _ _ _ _ rfl rfl w.heap.size 0 (rowk 1 x 0) 3 ?hg [.int .i64 x] rfl ?hpos ?hfit ?h1 w.heap.size w ?hb (Nat.le_refl _) ?_; (case hg => simp [World.alloc]); (case hpos => exact fun _ => ⟨rfl, _, rfl, one_src ((Below.cell (below_alloc (pw_below_drewN (Below.refl _ _) _) _) (p := ⟨b, o, none⟩) hb0.out).trans hc)⟩); (case hfit => simp [rowk]); (case h1 => simp [Value.oneCell']); (case hb => exact below_alloc (pw_below_drewN (Below.refl _ _) _) _); intro w2 HG2 HB2; have HG := Aside0.mk HG2.out; have HB := Aside0.mk HB2; clear HG2 HB2 hmk))
  go_loopg [8] 1 (fun kq v8 w' => ∃ k : Nat, v8 = .int .i64 (k : Int) ∧ Aside0 (k = 1) ∧ Aside0 (1 - k ≤ kq) ∧ Aside0 (w'.heap[w.heap.size]? = some (.cells (rowk 1 x k).toArray 3 (0, 0))) ∧ Aside0 (Below w.heap.size w w'))
  case atStart => exact ⟨1, rfl, ⟨by omega⟩, ⟨by omega⟩, ⟨(rowk_splice 1 x 0 1 (by decide) ▸ HG.out :)⟩, ⟨HB.out⟩⟩
  case round =>
    obtain ⟨k, rfl, h1, h3, HG, HB⟩ := hrel
    obtain rfl := h1.out
    · go_wp2
      go_ret
      exact ⟨_, rfl, Kd.R_of_own (xs := List.replicate 1 x) ⟨by simp [encs], .inr ⟨w.heap.size, 1, (rowk 1 x 1).toArray, rfl, Nat.le_refl _, HG.out, Nat.le_refl _, by decide, by simp [rowk], by simp [rowk, encs]⟩⟩ (fun _ _ => trivial), HB.out⟩
set_option maxHeartbeats 8000000 in
set_option maxRecDepth 100000 in
theorem rep2 (b o : Nat) (c0 : Nat) (x : Int) (w : World) (hc : w.cell? ⟨b, o, none⟩ = some (.int .i64 x)) :
    Calls Try.prog 49 #[.slice (some ⟨b, o, none⟩) 1 c0, .int .i64 2] w fun e w' => ∃ v0_ : Value, e = .returned (v0_) ∧ Kd.R (Kd.int .i64) 3 w' w.heap.size (fun _ => True) v0_ (List.replicate 2 x) ∧ Below w.heap.size w w' := by
  have hmk : ∀ W : World, (Instr.makeSlice 22 (.int .i64 2) (.int .i64 2)).run Try.prog W = .ok (.slice (some ⟨W.heap.size, 0, none⟩) 2 2) (W.alloc (.cells (rowk 2 x 0).toArray 3)) := fun W => by kernel_rfl
  have hb0 := Lib.hid (World.block_lt_of_cell? w _ hc)
  go_enter Try.func49, Try.ntmps49
  go_wp2_with (first | (go_at_call 67; refine (mul1 _ (by decide) _).mono ?_; rintro e w1 ⟨rfl, ⟨nd, rfl⟩⟩) | (with_reducible refine wpList_copy_splice (o := ⟨some 33, _, _, _, _, _⟩) rfl (.tmp 31) (.tmp 32) 22 22 rfl 3 Try.underlying22 (by kernel_rfl) _ _ _ _ _ _ rfl rfl w.heap.size 0 (rowk 2 x 0) 3 ?hg [.int .i64 x] rfl ?hpos ?hfit ?h1 w.heap.size w ?hb (Nat.le_refl _) ?_; (case hg => simp [World.alloc]); (case hpos => exact fun _ => ⟨rfl, _, rfl, one_src ((Below.cell (below_alloc (pw_below_drewN (Below.refl _ _) _) _) (p := ⟨b, o, none⟩) hb0.out).trans hc)⟩); (case hfit => simp [rowk]); (case h1 => simp [Value.oneCell']); (case hb => exact below_alloc (pw_below_drewN (Below.refl _ _) _) _); intro w2 HG2 HB2; have HG := Aside0.mk HG2.out; have HB := Aside0.mk HB2; clear HG2 HB2 hmk))
  go_loopg [8] 2 (fun kq v8 w' => ∃ k : Nat, v8 = .int .i64 (k : Int) ∧ Aside0 (k = 1 ∨ k = 2) ∧ Aside0 (2 - k ≤ kq) ∧ Aside0 (w'.heap[w.heap.size]? = some (.cells (rowk 2 x k).toArray 3 (0, 0))) ∧ Aside0 (Below w.heap.size w w'))
  case atStart => exact ⟨1, rfl, ⟨by omega⟩, ⟨by omega⟩, ⟨(rowk_splice 2 x 0 1 (by decide) ▸ HG.out :)⟩, ⟨HB.out⟩⟩
  case round =>
    obtain ⟨k, rfl, h1, h3, HG, HB⟩ := hrel
    have h2 := h1.out
    rcases h2 with rfl | rfl
    · obtain ⟨w2, hcp, HG2, HB2⟩ : ∃ w2, (Builtin.copy_ #[22, 22] 3 #[.slice (some ⟨w.heap.size, 1, none⟩) 1 1, .slice (some ⟨w.heap.size, 0, none⟩) 1 2]).run Try.prog wr.drew = .ok (.int .i64 1) w2 ∧ Aside0 (w2.heap[w.heap.size]? = some (.cells (rowk 2 x 2).toArray 3 (0, 0))) ∧ Aside0 (Below w.heap.size w w2) := copy_step (n := 2) (k := 1) (m := 1) (w := w) (W := wr.drew) HG.out rfl (by decide) (below_drew1 HB.out)
      have hm := h3.out
      have HM := Aside0.mk (show 2 - 2 ≤ gk - 1 by omega)
      have HP := Aside0.mk (show 0 < gk by omega)
      clear h1 h3 hm
      go_wp2
      go_region
      go_wp2
      go_roundg (gk - 1)
      case measure => have := HP.out; omega
      case rel => exact ⟨2, (by first | rfl | (simp; done)), ⟨by omega⟩, ⟨HM.out⟩, ⟨HG2.out⟩, ⟨HB2.out⟩⟩
    · go_wp2
      go_ret
      exact ⟨_, rfl, Kd.R_of_own (xs := List.replicate 2 x) ⟨by simp [encs], .inr ⟨w.heap.size, 2, (rowk 2 x 2).toArray, rfl, Nat.le_refl _, HG.out, Nat.le_refl _, by decide, by simp [rowk], by simp [rowk, encs]⟩⟩ (fun _ _ => trivial), HB.out⟩
set_option maxHeartbeats 8000000 in
set_option maxRecDepth 100000 in
theorem rep3 (b o : Nat) (c0 : Nat) (x : Int) (w : World) (hc : w.cell? ⟨b, o, none⟩ = some (.int .i64 x)) :
    Calls Try.prog 49 #[.slice (some ⟨b, o, none⟩) 1 c0, .int .i64 3] w fun e w' => ∃ v0_ : Value, e = .returned (v0_) ∧ Kd.R (Kd.int .i64) 3 w' w.heap.size (fun _ => True) v0_ (List.replicate 3 x) ∧ Below w.heap.size w w' := by
  have hmk : ∀ W : World, (Instr.makeSlice 22 (.int .i64 3) (.int .i64 3)).run Try.prog W = .ok (.slice (some ⟨W.heap.size, 0, none⟩) 3 3) (W.alloc (.cells (rowk 3 x 0).toArray 3)) := fun W => by kernel_rfl
  have hb0 := Lib.hid (World.block_lt_of_cell? w _ hc)
  go_enter Try.func49, Try.ntmps49
  go_wp2_with (first | (go_at_call 67; refine (mul1 _ (by decide) _).mono ?_; rintro e w1 ⟨rfl, ⟨nd, rfl⟩⟩) | (with_reducible refine wpList_copy_splice (o := ⟨some 33, _, _, _, _, _⟩) rfl (.tmp 31) (.tmp 32) 22 22 rfl 3 Try.underlying22 (by kernel_rfl) _ _ _ _ _ _ rfl rfl w.heap.size 0 (rowk 3 x 0) 3 ?hg [.int .i64 x] rfl ?hpos ?hfit ?h1 w.heap.size w ?hb (Nat.le_refl _) ?_; (case hg => simp [World.alloc]); (case hpos => exact fun _ => ⟨rfl, _, rfl, one_src ((Below.cell (below_alloc (pw_below_drewN (Below.refl _ _) _) _) (p := ⟨b, o, none⟩) hb0.out).trans hc)⟩); (case hfit => simp [rowk]); (case h1 => simp [Value.oneCell']); (case hb => exact below_alloc (pw_below_drewN (Below.refl _ _) _) _); intro w2 HG2 HB2; have HG := Aside0.mk HG2.out; have HB := Aside0.mk HB2; clear HG2 HB2 hmk))
  go_loopg [8] 3 (fun kq v8 w' => ∃ k : Nat, v8 = .int .i64 (k : Int) ∧ Aside0 (k = 1 ∨ k = 2 ∨ k = 3) ∧ Aside0 (3 - k ≤ kq) ∧ Aside0 (w'.heap[w.heap.size]? = some (.cells (rowk 3 x k).toArray 3 (0, 0))) ∧ Aside0 (Below w.heap.size w w'))
  case atStart => exact ⟨1, rfl, ⟨by omega⟩, ⟨by omega⟩, ⟨(rowk_splice 3 x 0 1 (by decide) ▸ HG.out :)⟩, ⟨HB.out⟩⟩
  case round =>
    obtain ⟨k, rfl, h1, h3, HG, HB⟩ := hrel
    have h2 := h1.out
    rcases h2 with rfl | rfl | rfl
    · obtain ⟨w2, hcp, HG2, HB2⟩ : ∃ w2, (Builtin.copy_ #[22, 22] 3 #[.slice (some ⟨w.heap.size, 1, none⟩) 2 2, .slice (some ⟨w.heap.size, 0, none⟩) 1 3]).run Try.prog wr.drew = .ok (.int .i64 1) w2 ∧ Aside0 (w2.heap[w.heap.size]? = some (.cells (rowk 3 x 2).toArray 3 (0, 0))) ∧ Aside0 (Below w.heap.size w w2) := copy_step (n := 3) (k := 1) (m := 1) (w := w) (W := wr.drew) HG.out rfl (by decide) (below_drew1 HB.out)
      have hm := h3.out
      have HM := Aside0.mk (show 3 - 2 ≤ gk - 1 by omega)
      have HP := Aside0.mk (show 0 < gk by omega)
      clear h1 h3 hm
      go_wp2
      go_region
      go_wp2
      go_roundg (gk - 1)
      case measure => have := HP.out; omega
      case rel => exact ⟨2, (by first | rfl | (simp; done)), ⟨by omega⟩, ⟨HM.out⟩, ⟨HG2.out⟩, ⟨HB2.out⟩⟩
    · obtain ⟨w2, hcp, HG2, HB2⟩ : ∃ w2, (Builtin.copy_ #[22, 22] 3 #[.slice (some ⟨w.heap.size, 2, none⟩) 1 1, .slice (some ⟨w.heap.size, 0, none⟩) 2 3]).run Try.prog wr.drew = .ok (.int .i64 1) w2 ∧ Aside0 (w2.heap[w.heap.size]? = some (.cells (rowk 3 x 3).toArray 3 (0, 0))) ∧ Aside0 (Below w.heap.size w w2) := copy_step (n := 3) (k := 2) (m := 1) (w := w) (W := wr.drew) HG.out rfl (by decide) (below_drew1 HB.out)
      have hm := h3.out
      have HM := Aside0.mk (show 3 - 3 ≤ gk - 1 by omega)
      have HP := Aside0.mk (show 0 < gk by omega)
      clear h1 h3 hm
      go_wp2
      go_region
      go_wp2
      go_roundg (gk - 1)
      case measure => have := HP.out; omega
      case rel => exact ⟨3, (by first | rfl | (simp; done)), ⟨by omega⟩, ⟨HM.out⟩, ⟨HG2.out⟩, ⟨HB2.out⟩⟩
    · go_wp2
      go_ret
      exact ⟨_, rfl, Kd.R_of_own (xs := List.replicate 3 x) ⟨by simp [encs], .inr ⟨w.heap.size, 3, (rowk 3 x 3).toArray, rfl, Nat.le_refl _, HG.out, Nat.le_refl _, by decide, by simp [rowk], by simp [rowk, encs]⟩⟩ (fun _ _ => trivial), HB.out⟩
set_option maxHeartbeats 8000000 in
set_option maxRecDepth 100000 in
theorem rep4 (b o : Nat) (c0 : Nat) (x : Int) (w : World) (hc : w.cell? ⟨b, o, none⟩ = some (.int .i64 x)) :
    Calls Try.prog 49 #[.slice (some ⟨b, o, none⟩) 1 c0, .int .i64 4] w fun e w' => ∃ v0_ : Value, e = .returned (v0_) ∧ Kd.R (Kd.int .i64) 3 w' w.heap.size (fun _ => True) v0_ (List.replicate 4 x) ∧ Below w.heap.size w w' := by
  have hmk : ∀ W : World, (Instr.makeSlice 22 (.int .i64 4) (.int .i64 4)).run Try.prog W = .ok (.slice (some ⟨W.heap.size, 0, none⟩) 4 4) (W.alloc (.cells (rowk 4 x 0).toArray 3)) := fun W => by kernel_rfl
  have hb0 := Lib.hid (World.block_lt_of_cell? w _ hc)
  go_enter Try.func49, Try.ntmps49
  go_wp2_with (first | (go_at_call 67; refine (mul1 _ (by decide) _).mono ?_; rintro e w1 ⟨rfl, ⟨nd, rfl⟩⟩) | (with_reducible refine wpList_copy_splice (o := ⟨some 33, _, _, _, _, _⟩) rfl (.tmp 31) (.tmp 32) 22 22 rfl 3 Try.underlying22 (by kernel_rfl) _ _ _ _ _ _ rfl rfl w.heap.size 0 (rowk 4 x 0) 3 ?hg [.int .i64 x] rfl ?hpos ?hfit ?h1 w.heap.size w ?hb (Nat.le_refl _) ?_; (case hg => simp [World.alloc]); (case hpos => exact fun _ => ⟨rfl, _, rfl, one_src ((Below.cell (below_alloc (pw_below_drewN (Below.refl _ _) _) _) (p := ⟨b, o, none⟩) hb0.out).trans hc)⟩); (case hfit => simp [rowk]); (case h1 => simp [Value.oneCell']); (case hb => exact below_alloc (pw_below_drewN (Below.refl _ _) _) _); intro w2 HG2 HB2; have HG := Aside0.mk HG2.out; have HB := Aside0.mk HB2; clear HG2 HB2 hmk))
  go_loopg [8] 4 (fun kq v8 w' => ∃ k : Nat, v8 = .int .i64 (k : Int) ∧ Aside0 (k = 1 ∨ k = 2 ∨ k = 4) ∧ Aside0 (4 - k ≤ kq) ∧ Aside0 (w'.heap[w.heap.size]? = some (.cells (rowk 4 x k).toArray 3 (0, 0))) ∧ Aside0 (Below w.heap.size w w'))
  case atStart => exact ⟨1, rfl, ⟨by omega⟩, ⟨by omega⟩, ⟨(rowk_splice 4 x 0 1 (by decide) ▸ HG.out :)⟩, ⟨HB.out⟩⟩
  case round =>
    obtain ⟨k, rfl, h1, h3, HG, HB⟩ := hrel
    have h2 := h1.out
    rcases h2 with rfl | rfl | rfl
    · obtain ⟨w2, hcp, HG2, HB2⟩ : ∃ w2, (Builtin.copy_ #[22, 22] 3 #[.slice (some ⟨w.heap.size, 1, none⟩) 3 3, .slice (some ⟨w.heap.size, 0, none⟩) 1 4]).run Try.prog wr.drew = .ok (.int .i64 1) w2 ∧ Aside0 (w2.heap[w.heap.size]? = some (.cells (rowk 4 x 2).toArray 3 (0, 0))) ∧ Aside0 (Below w.heap.size w w2) := copy_step (n := 4) (k := 1) (m := 1) (w := w) (W := wr.drew) HG.out rfl (by decide) (below_drew1 HB.out)
      have hm := h3.out
      have HM := Aside0.mk (show 4 - 2 ≤ gk - 1 by omega)
      have HP := Aside0.mk (show 0 < gk by omega)
      clear h1 h3 hm
      go_wp2
      go_region
      go_wp2
      go_roundg (gk - 1)
      case measure => have := HP.out; omega
      case rel => exact ⟨2, (by first | rfl | (simp; done)), ⟨by omega⟩, ⟨HM.out⟩, ⟨HG2.out⟩, ⟨HB2.out⟩⟩
    · obtain ⟨w2, hcp, HG2, HB2⟩ : ∃ w2, (Builtin.copy_ #[22, 22] 3 #[.slice (some ⟨w.heap.size, 2, none⟩) 2 2, .slice (some ⟨w.heap.size, 0, none⟩) 2 4]).run Try.prog wr.drew = .ok (.int .i64 2) w2 ∧ Aside0 (w2.heap[w.heap.size]? = some (.cells (rowk 4 x 4).toArray 3 (0, 0))) ∧ Aside0 (Below w.heap.size w w2) := copy_step (n := 4) (k := 2) (m := 2) (w := w) (W := wr.drew) HG.out rfl (by decide) (below_drew1 HB.out)
      have hm := h3.out
      have HM := Aside0.mk (show 4 - 4 ≤ gk - 1 by omega)
      have HP := Aside0.mk (show 0 < gk by omega)
      clear h1 h3 hm
      go_wp2
      go_region
      go_wp2
      go_roundg (gk - 1)
      case measure => have := HP.out; omega
      case rel => exact ⟨4, (by first | rfl | (simp; done)), ⟨by omega⟩, ⟨HM.out⟩, ⟨HG2.out⟩, ⟨HB2.out⟩⟩
    · go_wp2
      go_ret
      exact ⟨_, rfl, Kd.R_of_own (xs := List.replicate 4 x) ⟨by simp [encs], .inr ⟨w.heap.size, 4, (rowk 4 x 4).toArray, rfl, Nat.le_refl _, HG.out, Nat.le_refl _, by decide, by simp [rowk], by simp [rowk, encs]⟩⟩ (fun _ _ => trivial), HB.out⟩
set_option maxHeartbeats 8000000 in
set_option maxRecDepth 100000 in
theorem rep5 (b o : Nat) (c0 : Nat) (x : Int) (w : World) (hc : w.cell? ⟨b, o, none⟩ = some (.int .i64 x)) :
    Calls Try.prog 49 #[.slice (some ⟨b, o, none⟩) 1 c0, .int .i64 5] w fun e w' => ∃ v0_ : Value, e = .returned (v0_) ∧ Kd.R (Kd.int .i64) 3 w' w.heap.size (fun _ => True) v0_ (List.replicate 5 x) ∧ Below w.heap.size w w' := by
  have hmk : ∀ W : World, (Instr.makeSlice 22 (.int .i64 5) (.int .i64 5)).run Try.prog W = .ok (.slice (some ⟨W.heap.size, 0, none⟩) 5 5) (W.alloc (.cells (rowk 5 x 0).toArray 3)) := fun W => by kernel_rfl
  have hb0 := Lib.hid (World.block_lt_of_cell? w _ hc)
  go_enter Try.func49, Try.ntmps49
  go_wp2_with (first | (go_at_call 67; refine (mul1 _ (by decide) _).mono ?_; rintro e w1 ⟨rfl, ⟨nd, rfl⟩⟩) | (with_reducible refine wpList_copy_splice (o := ⟨some 33, _, _, _, _, _⟩) rfl (.tmp 31) (.tmp 32) 22 22 rfl 3 Try.underlying22 (by kernel_rfl) _ _ _ _ _ _ rfl rfl w.heap.size 0 (rowk 5 x 0) 3 ?hg [.int .i64 x] rfl ?hpos ?hfit ?h1 w.heap.size w ?hb (Nat.le_refl _) ?_; (case hg => simp [World.alloc]); (case hpos => exact fun _ => ⟨rfl, _, rfl, one_src ((Below.cell (below_alloc (pw_below_drewN (Below.refl _ _) _) _) (p := ⟨b, o, none⟩) hb0.out).trans hc)⟩); (case hfit => simp [rowk]); (case h1 => simp [Value.oneCell']); (case hb => exact below_alloc (pw_below_drewN (Below.refl _ _) _) _); intro w2 HG2 HB2; have HG := Aside0.mk HG2.out; have HB := Aside0.mk HB2; clear HG2 HB2 hmk))
  go_loopg [8] 5 (fun kq v8 w' => ∃ k : Nat, v8 = .int .i64 (k : Int) ∧ Aside0 (k = 1 ∨ k = 2 ∨ k = 4 ∨ k = 5) ∧ Aside0 (5 - k ≤ kq) ∧ Aside0 (w'.heap[w.heap.size]? = some (.cells (rowk 5 x k).toArray 3 (0, 0))) ∧ Aside0 (Below w.heap.size w w'))
  case atStart => exact ⟨1, rfl, ⟨by omega⟩, ⟨by omega⟩, ⟨(rowk_splice 5 x 0 1 (by decide) ▸ HG.out :)⟩, ⟨HB.out⟩⟩
  case round =>
    obtain ⟨k, rfl, h1, h3, HG, HB⟩ := hrel
    have h2 := h1.out
    rcases h2 with rfl | rfl | rfl | rfl
    · obtain ⟨w2, hcp, HG2, HB2⟩ : ∃ w2, (Builtin.copy_ #[22, 22] 3 #[.slice (some ⟨w.heap.size, 1, none⟩) 4 4, .slice (some ⟨w.heap.size, 0, none⟩) 1 5]).run Try.prog wr.drew = .ok (.int .i64 1) w2 ∧ Aside0 (w2.heap[w.heap.size]? = some (.cells (rowk 5 x 2).toArray 3 (0, 0))) ∧ Aside0 (Below w.heap.size w w2) := copy_step (n := 5) (k := 1) (m := 1) (w := w) (W := wr.drew) HG.out rfl (by decide) (below_drew1 HB.out)
      have hm := h3.out
      have HM := Aside0.mk (show 5 - 2 ≤ gk - 1 by omega)
      have HP := Aside0.mk (show 0 < gk by omega)
      clear h1 h3 hm
      go_wp2
      go_region
      go_wp2
      go_roundg (gk - 1)
      case measure => have := HP.out; omega
      case rel => exact ⟨2, (by first | rfl | (simp; done)), ⟨by omega⟩, ⟨HM.out⟩, ⟨HG2.out⟩, ⟨HB2.out⟩⟩
    · obtain ⟨w2, hcp, HG2, HB2⟩ : ∃ w2, (Builtin.copy_ #[22, 22] 3 #[.slice (some ⟨w.heap.size, 2, none⟩) 3 3, .slice (some ⟨w.heap.size, 0, none⟩) 2 5]).run Try.prog wr.drew = .ok (.int .i64 2) w2 ∧ Aside0 (w2.heap[w.heap.size]? = some (.cells (rowk 5 x 4).toArray 3 (0, 0))) ∧ Aside0 (Below w.heap.size w w2) := copy_step (n := 5) (k := 2) (m := 2) (w := w) (W := wr.drew) HG.out rfl (by decide) (below_drew1 HB.out)
      have hm := h3.out
      have HM := Aside0.mk (show 5 - 4 ≤ gk - 1 by omega)
      have HP := Aside0.mk (show 0 < gk by omega)
      clear h1 h3 hm
      go_wp2
      go_region
      go_wp2
      go_roundg (gk - 1)
      case measure => have := HP.out; omega
      case rel => exact ⟨4, (by first | rfl | (simp; done)), ⟨by omega⟩, ⟨HM.out⟩, ⟨HG2.out⟩, ⟨HB2.out⟩⟩
    · obtain ⟨w2, hcp, HG2, HB2⟩ : ∃ w2, (Builtin.copy_ #[22, 22] 3 #[.slice (some ⟨w.heap.size, 4, none⟩) 1 1, .slice (some ⟨w.heap.size, 0, none⟩) 4 5]).run Try.prog wr.drew = .ok (.int .i64 1) w2 ∧ Aside0 (w2.heap[w.heap.size]? = some (.cells (rowk 5 x 5).toArray 3 (0, 0))) ∧ Aside0 (Below w.heap.size w w2) := copy_step (n := 5) (k := 4) (m := 1) (w := w) (W := wr.drew) HG.out rfl (by decide) (below_drew1 HB.out)
      have hm := h3.out
      have HM := Aside0.mk (show 5 - 5 ≤ gk - 1 by omega)
      have HP := Aside0.mk (show 0 < gk by omega)
      clear h1 h3 hm
      go_wp2
      go_region
      go_wp2
      go_roundg (gk - 1)
      case measure => have := HP.out; omega
      case rel => exact ⟨5, (by first | rfl | (simp; done)), ⟨by omega⟩, ⟨HM.out⟩, ⟨HG2.out⟩, ⟨HB2.out⟩⟩
    · go_wp2
      go_ret
      exact ⟨_, rfl, Kd.R_of_own (xs := List.replicate 5 x) ⟨by simp [encs], .inr ⟨w.heap.size, 5, (rowk 5 x 5).toArray, rfl, Nat.le_refl _, HG.out, Nat.le_refl _, by decide, by simp [rowk], by simp [rowk, encs]⟩⟩ (fun _ _ => trivial), HB.out⟩
set_option maxHeartbeats 8000000 in
set_option maxRecDepth 100000 in
theorem rep6 (b o : Nat) (c0 : Nat) (x : Int) (w : World) (hc : w.cell? ⟨b, o, none⟩ = some (.int .i64 x)) :
    Calls Try.prog 49 #[.slice (some ⟨b, o, none⟩) 1 c0, .int .i64 6] w fun e w' => ∃ v0_ : Value, e = .returned (v0_) ∧ Kd.R (Kd.int .i64) 3 w' w.heap.size (fun _ => True) v0_ (List.replicate 6 x) ∧ Below w.heap.size w w' := by
  have hmk : ∀ W : World, (Instr.makeSlice 22 (.int .i64 6) (.int .i64 6)).run Try.prog W = .ok (.slice (some ⟨W.heap.size, 0, none⟩) 6 6) (W.alloc (.cells (rowk 6 x 0).toArray 3)) := fun W => by kernel_rfl
  have hb0 := Lib.hid (World.block_lt_of_cell? w _ hc)
  go_enter Try.func49, Try.ntmps49
  go_wp2_with (first | (go_at_call 67; refine (mul1 _ (by decide) _).mono ?_; rintro e w1 ⟨rfl, ⟨nd, rfl⟩⟩) | (with_reducible refine wpList_copy_splice (o := ⟨some 33, _, _, _, _, _⟩) rfl (.tmp 31) (.tmp 32) 22 22 rfl 3 Try.underlying22 (by kernel_rfl) _ _ _ _ _ _ rfl rfl w.heap.size 0 (rowk 6 x 0) 3 ?hg [.int .i64 x] rfl ?hpos ?hfit ?h1 w.heap.size w ?hb (Nat.le_refl _) ?_; (case hg => simp [World.alloc]); (case hpos => exact fun _ => ⟨rfl, _, rfl, one_src ((Below.cell (below_alloc (pw_below_drewN (Below.refl _ _) _) _) (p := ⟨b, o, none⟩) hb0.out).trans hc)⟩); (case hfit => simp [rowk]); (case h1 => simp [Value.oneCell']); (case hb => exact below_alloc (pw_below_drewN (Below.refl _ _) _) _); intro w2 HG2 HB2; have HG := Aside0.mk HG2.out; have HB := Aside0.mk HB2; clear HG2 HB2 hmk))
  go_loopg [8] 6 (fun kq v8 w' => ∃ k : Nat, v8 = .int .i64 (k : Int) ∧ Aside0 (k = 1 ∨ k = 2 ∨ k = 4 ∨ k = 6) ∧ Aside0 (6 - k ≤ kq) ∧ Aside0 (w'.heap[w.heap.size]? = some (.cells (rowk 6 x k).toArray 3 (0, 0))) ∧ Aside0 (Below w.heap.size w w'))
  case atStart => exact ⟨1, rfl, ⟨by omega⟩, ⟨by omega⟩, ⟨(rowk_splice 6 x 0 1 (by decide) ▸ HG.out :)⟩, ⟨HB.out⟩⟩
  case round =>
    obtain ⟨k, rfl, h1, h3, HG, HB⟩ := hrel
    have h2 := h1.out
    rcases h2 with rfl | rfl | rfl | rfl
    · obtain ⟨w2, hcp, HG2, HB2⟩ : ∃ w2, (Builtin.copy_ #[22, 22] 3 #[.slice (some ⟨w.heap.size, 1, none⟩) 5 5, .slice (some ⟨w.heap.size, 0, none⟩) 1 6]).run Try.prog wr.drew = .ok (.int .i64 1) w2 ∧ Aside0 (w2.heap[w.heap.size]? = some (.cells (rowk 6 x 2).toArray 3 (0, 0))) ∧ Aside0 (Below w.heap.size w w2) := copy_step (n := 6) (k := 1) (m := 1) (w := w) (W := wr.drew) HG.out rfl (by decide) (below_drew1 HB.out)
      have hm := h3.out
      have HM := Aside0.mk (show 6 - 2 ≤ gk - 1 by omega)
      have HP := Aside0.mk (show 0 < gk by omega)
      clear h1 h3 hm
      go_wp2
      go_region
      go_wp2
      go_roundg (gk - 1)
      case measure => have := HP.out; omega
      case rel => exact ⟨2, (by first | rfl | (simp; done)), ⟨by omega⟩, ⟨HM.out⟩, ⟨HG2.out⟩, ⟨HB2.out⟩⟩
    · obtain ⟨w2, hcp, HG2, HB2⟩ : ∃ w2, (Builtin.copy_ #[22, 22] 3 #[.slice (some ⟨w.heap.size, 2, none⟩) 4 4, .slice (some ⟨w.heap.size, 0, none⟩) 2 6]).run Try.prog wr.drew = .ok (.int .i64 2) w2 ∧ Aside0 (w2.heap[w.heap.size]? = some (.cells (rowk 6 x 4).toArray 3 (0, 0))) ∧ Aside0 (Below w.heap.size w w2) := copy_step (n := 6) (k := 2) (m := 2) (w := w) (W := wr.drew) HG.out rfl (by decide) (below_drew1 HB.out)
      have hm := h3.out
      have HM := Aside0.mk (show 6 - 4 ≤ gk - 1 by omega)
      have HP := Aside0.mk (show 0 < gk by omega)
      clear h1 h3 hm
      go_wp2
      go_region
      go_wp2
      go_roundg (gk - 1)
      case measure => have := HP.out; omega
      case rel => exact ⟨4, (by first | rfl | (simp; done)), ⟨by omega⟩, ⟨HM.out⟩, ⟨HG2.out⟩, ⟨HB2.out⟩⟩
    · obtain ⟨w2, hcp, HG2, HB2⟩ : ∃ w2, (Builtin.copy_ #[22, 22] 3 #[.slice (some ⟨w.heap.size, 4, none⟩) 2 2, .slice (some ⟨w.heap.size, 0, none⟩) 4 6]).run Try.prog wr.drew = .ok (.int .i64 2) w2 ∧ Aside0 (w2.heap[w.heap.size]? = some (.cells (rowk 6 x 6).toArray 3 (0, 0))) ∧ Aside0 (Below w.heap.size w w2) := copy_step (n := 6) (k := 4) (m := 2) (w := w) (W := wr.drew) HG.out rfl (by decide) (below_drew1 HB.out)
      have hm := h3.out
      have HM := Aside0.mk (show 6 - 6 ≤ gk - 1 by omega)
      have HP := Aside0.mk (show 0 < gk by omega)
      clear h1 h3 hm
      go_wp2
      go_region
      go_wp2
      go_roundg (gk - 1)
      case measure => have := HP.out; omega
      case rel => exact ⟨6, (by first | rfl | (simp; done)), ⟨by omega⟩, ⟨HM.out⟩, ⟨HG2.out⟩, ⟨HB2.out⟩⟩
    · go_wp2
      go_ret
      exact ⟨_, rfl, Kd.R_of_own (xs := List.replicate 6 x) ⟨by simp [encs], .inr ⟨w.heap.size, 6, (rowk 6 x 6).toArray, rfl, Nat.le_refl _, HG.out, Nat.le_refl _, by decide, by simp [rowk], by simp [rowk, encs]⟩⟩ (fun _ _ => trivial), HB.out⟩
def slices_Repeat_int_int.f (l0 : List Int) (a1 : Int) : Option (List Int) := if l0.length = 1 ∧ 1 ≤ a1 ∧ a1 ≤ 6 then some (List.replicate a1.toNat (rd l0 0)) else none
theorem slices_Repeat_int_int.calls (A0 : Option Addr) (c0 : Nat) (l0 : List Int) (a1 : Int) (r : List Int) (w : World) (hr0 : Kd.C (Kd.int .i64) w A0 l0.length l0) (hc0 : l0.length ≤ c0) (h : slices_Repeat_int_int.f l0 a1 = some r) :
    Calls Try.prog 49 #[.slice A0 l0.length c0, .int .i64 a1] w fun e w' => ∃ v0_ : Value, e = .returned (v0_) ∧ Kd.R (Kd.int .i64) 3 w' w.heap.size (fun _ => True) v0_ r ∧ Below w.heap.size w w' := by
  unfold slices_Repeat_int_int.f at h
  by_cases hl : l0.length = 1 ∧ 1 ≤ a1 ∧ a1 ≤ 6
  · rw [if_pos hl] at h
    cases h
    obtain ⟨h1, h2, h3⟩ := hl
    obtain ⟨b, off, rfl, hbl, hc⟩ := Open.C_at hr0 (by omega)
    have hc0' := hc 0 (by omega)
    rw [Nat.add_zero, show l0[0]! = rd l0 0 by rw [getElem!_pos l0 0 (by omega)]; unfold rd; simp [show 0 < l0.length by omega]] at hc0'
    rw [h1]
    have : a1 = 1 ∨ a1 = 2 ∨ a1 = 3 ∨ a1 = 4 ∨ a1 = 5 ∨ a1 = 6 := by omega
    rcases this with rfl | rfl | rfl | rfl | rfl | rfl
    · exact rep1 b off c0 _ w hc0'
    · exact rep2 b off c0 _ w hc0'
    · exact rep3 b off c0 _ w hc0'
    · exact rep4 b off c0 _ w hc0'
    · exact rep5 b off c0 _ w hc0'
    · exact rep6 b off c0 _ w hc0'
  · rw [if_neg hl] at h
    cases h
end Go.Proofs.Ytfppdfphbphhhaa.P
