/- slices.Backward over a list of texts: the contract of its iterator (two loop variables). After the kit's pattern for slices.All. Conditions: as each states. -/
import Derived.RangeFuncBox
import Derived.RangeFuncLeaves
import Derived.Shelf.Abstract
import Derived.WalkKit
import Derived.OwnWalkIn
import Derived.TacticsInMore
import Derived.LoopNIn
import Derived.LoopIn
import Derived.Test.YthfmfeghipjpdaaDoorProg
namespace Go.Proofs.YthfmfeghipjpdaaDoor.Back
open Go.RowKit Go.Shelf
attribute [local go_sem] Oper.semAt_some
set_option linter.unusedVariables false
/-- What has come when k rounds are over: the last, the last but one, .. -/
def back {α : Type} (g : Nat → α) (len k : Nat) : List α := (List.range k).map fun t => g (len - 1 - t)
theorem back_succ {α : Type} (g : Nat → α) (len k : Nat) : back g len (k + 1) = back g len k ++ [g (len - 1 - k)] := by simp [back, List.range_succ]
theorem back_length {α : Type} (g : Nat → α) (len k : Nat) : (back g len k).length = k := by simp [back]
variable {α : Type} (e1 : α → Nat) (e2 : α → ByteArray)
theorem w64s {x : Int} (h0 : -1000000 ≤ x) (h1 : x ≤ 1000000) : wrap64 x = x := by
  unfold wrap64
  omega
/-- What a round keeps: what lies below n₀, and the cell of the iterator's own box. -/
def KB (n₀ Bs : Nat) (A B : World) : Prop := Below n₀ A B ∧ ∀ v, A.cell? ⟨Bs, 0, none⟩ = some v → B.cell? ⟨Bs, 0, none⟩ = some v
theorem KB.refl (n₀ Bs : Nat) (A : World) : KB n₀ Bs A A := ⟨Below.refl _ _, fun _ h => h⟩
theorem KB.trans {n₀ Bs : Nat} {A B C : World} (h : KB n₀ Bs A B) (k : KB n₀ Bs B C) : KB n₀ Bs A C := ⟨h.1.trans k.1, fun v e => k.2 v (h.2 v e)⟩
theorem KB.put {n₀ Bs : Nat} {w : World} (hn : n₀ ≤ w.heap.size) (W : World) (l : Nat) (o o' : Obj) (hl : w.heap.size ≤ l) (h : W.heap[l]? = some o) (ho : o.isCells = false) (hw : o.isWalk = false) : KB n₀ Bs W (W.putObj l o') := by
  refine ⟨belowK_b hn W l o o' hl h ho hw, fun v hv => ?_⟩
  have hne : Bs ≠ l := by
    rintro rfl
    simp only [World.cell?, h] at hv
    cases o <;> simp [Obj.isCells] at ho hv
  simp only [World.cell?, World.putObj_heap_other hne] at hv ⊢
  exact hv
set_option maxRecDepth 100000 in
set_option maxHeartbeats 2000000 in
theorem back1_in (F : Fence) (n : Nat) (h88 : F.fn 88) (hro : F.round = none) (hn : 1 ≤ n) (l Bs n₀ b off len cap : Nat) (g : Nat → α) (hg1 : ∀ j, j < len → e1 (g j) = j) (hlen : len ≤ 1000) (hb : b < n₀) (J Jx : List α → World → Prop)
    (hY : ∀ pre x W, J pre W → pre.length < len → YieldAt F (n - 1) Tryd.prog l #[.int .i64 (e1 x : Int), .string (e2 x)] W fun e W' =>
      (e = .returned (.bool true) ∧ J (pre ++ [x]) W' ∧ KB n₀ Bs W W') ∨ (e = .returned (.bool false) ∧ Jx (pre ++ [x]) W'))
    (W : World) (hBs : W.cell? ⟨Bs, 0, none⟩ = some (.slice (some ⟨b, off, none⟩) len cap)) (hc : ∀ j, j < len → W.cell? ⟨b, off + j, none⟩ = some (.string (e2 (g j)))) (h0 : J [] W) :
    CallsIn F n Tryd.prog 88 #[.func (.yield l) #[] #[], .pointer (some ⟨Bs, 0, none⟩)] W fun e W' => (∃ v, e = .returned v) ∧
      ((∃ ys, ys = back g len len ∧ J ys W') ∨ (∃ pre, True ∧ Jx pre W')) := by
  refine callsIn_of_wp Tryd.func88 rfl h88 ?_ hro
  simp only [Tryd.ntmps88, List.size_toArray, List.length_cons, List.length_nil, Nat.reduceAdd, Nat.reduceSub, Array.replicate_succ, Array.replicate_zero, List.push_toArray, List.append_toArray, List.nil_append, List.cons_append]
  have hw0 : wrap64 ((len : Int) - 1) = (len : Int) - 1 := w64s (by omega) (by omega)
  gi_wp2
  gi_loopw [3] (fun i wr => ∃ m : Nat, m ≤ len ∧ i = .int .i64 ((m : Int) - 1) ∧ J (back g len (len - m)) wr ∧ KB n₀ Bs W wr)
    (fun i _ => (intOf i + 1).toNat)
  case atStart => exact ⟨len, Nat.le_refl _, by first | rfl | (simp [hw0]; done), by rw [Nat.sub_self]; exact h0, KB.refl _ _ _⟩
  case round =>
    clear hw0
    obtain ⟨m, hm, rfl, hJs, hnx⟩ := hrel
    cases m with
    | zero =>
      rw [show ((0 : Nat) : Int) - 1 = -1 from rfl]
      gi_wp2
      go_end0
      exact ⟨⟨_, rfl⟩, .inl ⟨_, rfl, by simpa using hJs⟩⟩
    | succ m =>
      rw [show ((m + 1 : Nat) : Int) - 1 = (m : Int) by omega]
      have hcx : wr.cell? ⟨b, off + m, none⟩ = some (.string (e2 (g m))) := (hnx.1.cell (p := ⟨b, off + m, none⟩) hb).trans (hc m (by omega))
      have hbx : wr.cell? ⟨Bs, 0, none⟩ = some (.slice (some ⟨b, off, none⟩) len cap) := hnx.2 _ hBs
      have hml : (m : Int) < (len : Int) := by omega
      have hmn : m < len := by omega
      have hw1 : wrap64 ((m : Int) - 1) = (m : Int) - 1 := w64s (by omega) (by omega)
      obtain ⟨fn, tmps, assign, body, hy, hR⟩ := hY _ (g m) wr hJs (by rw [back_length]; omega)
      rw [hg1 m (by omega)] at hy
      gi_wp2
      refine hR.mono ?_
      rintro e W3 (⟨rfl, hJ3, hk3⟩ | ⟨rfl, hJx3⟩)
      · gi_wp2
        go_roundw
        case rel => exact ⟨m, by omega, by first | rfl | (simp [hw1]; done), by rw [show len - m = (len - (m + 1)) + 1 by omega, back_succ, show len - 1 - (len - (m + 1)) = m by omega]; exact hJ3, hnx.trans hk3⟩
        case measure => first | (simp [intOf]; done) | (simp [intOf, hw1]; omega)
      · gi_wp2
        refine bodyPost_ret (results_none rfl _ _ _) rfl ?_
        exact ⟨⟨_, rfl⟩, .inr ⟨_, trivial, hJx3⟩⟩
set_option maxHeartbeats 1000000 in
theorem back_in (F : Fence) (n : Nat) (h74 : F.fn 74) (hro : F.round = none) (a : Option Addr) (len cap : Nat) (w : World) :
    CallsIn F n Tryd.prog 74 #[.slice a len cap] w fun e w' => e = .returned (.func (.func 88) #[] #[.pointer (some ⟨w.heap.size, 0, none⟩)]) ∧ w' = w.alloc (.cells #[.slice a len cap] 22) := by
  refine callsIn_of_wp Tryd.func74 rfl h74 ?_ hro
  simp only [Tryd.ntmps74, List.size_toArray, List.length_cons, List.length_nil, Nat.reduceAdd, Nat.reduceSub, Array.replicate_succ, Array.replicate_zero, List.push_toArray, List.append_toArray, List.nil_append, List.cons_append]
  gi_wp2
  go_ret
  exact ⟨rfl, rfl⟩
theorem back_stops (F : Fence) (n : Nat) (h88 : F.fn 88) (hro : F.round = none) (hn : 1 ≤ n) (Bs n₀ b off len cap : Nat) (g : Nat → α) (hg1 : ∀ j, j < len → e1 (g j) = j) (hlen : len ≤ 1000) (w : World) (hBs : Bs < w.heap.size) (hn₀ : n₀ ≤ w.heap.size) (hb : b < n₀)
    (hc : w.cell? ⟨Bs, 0, none⟩ = some (.slice (some ⟨b, off, none⟩) len cap)) (hI : ∀ j, j < len → w.cell? ⟨b, off + j, none⟩ = some (.string (e2 (g j)))) :
    SeqStopsK F n Tryd.prog 88 #[.pointer (some ⟨Bs, 0, none⟩)] (fun x : α => #[Value.int .i64 (e1 x : Int), Value.string (e2 x)]) (KB n₀ Bs) (fun ys => ys = back g len len) (fun _ => True) len w := fun l J Jx W hW _ _ hY h0 =>
  back1_in e1 e2 F n h88 hro hn l Bs n₀ b off len cap g hg1 hlen hb J Jx hY W ((hW.cell (p := ⟨Bs, 0, none⟩) hBs).trans hc) (fun j hj => (hW.cell (p := ⟨b, off + j, none⟩) (Nat.lt_of_lt_of_le hb hn₀)).trans (hI j hj)) h0
/-- A deferred mark of a range over a function. -/
def mark (D : Nat) : Deferred := { target := .collected D, args := #[] }
/-- A frame that leaves with marks alone: each is taken; then the results. -/
theorem leaves_marks {F : Fence} {n : Nat} {P : Program} {fn : Func} {tmps : Array Value} {R : Ending → World → Prop} (n₀ : Nat) (Pw : World → Prop) (hstep : ∀ W D, Pw W → n₀ ≤ D → W.heap[D]? = some (.deferred (some [])) → Pw (W.putObj D (.deferred none))) (hend : ∀ W, Pw W → ∃ v, (results fn tmps).run P W = .ok v W ∧ R (.returned v) W) :
    ∀ (Ds : List Nat) (W : World), Pw W → (∀ D ∈ Ds, n₀ ≤ D ∧ W.heap[D]? = some (.deferred (some []))) → Ds.Nodup → LeavesInM F n P fn tmps R (Ds.map mark) .returning W
  | [], W, hP, _, _ => hend W hP
  | D :: Ds, W, hP, hD, hn => by
    have h := hD D List.mem_cons_self
    have hn' := List.nodup_cons.1 hn
    refine ⟨by simp, .inl ⟨D, _, rfl, run_takeDeferred h.2, ?_⟩⟩
    refine leaves_marks n₀ Pw hstep hend Ds _ (hstep W D hP h.1 h.2) (fun D' hD' => ?_) hn'.2
    have h2 := hD D' (List.mem_cons_of_mem _ hD')
    exact ⟨h2.1, (World.putObj_heap_other (fun e => hn'.1 (by rw [← e] at *; first | exact hD' | (rw [e]; exact hD')))).trans h2.2⟩
end Go.Proofs.YthfmfeghipjpdaaDoor.Back
