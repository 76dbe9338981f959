/- All chomps in a bar, in order, as lists; and what a call keeps that appends to a list of rows through a box. Conditions: none. -/
import Derived.Test.YtfppdfphbphhhaaPx0
import Derived.Lib.Hide
namespace Go.Proofs.Ytfppdfphbphhhaa.P
open Go.RowKit Go.Proofs.YtfppdfphbphhhaaW.PrintWords Go.Proofs.YtfppdfphbphhhaaW.PrintLast Go.Proofs.YtfppdfphbphhhaaW.PrintMore
def headRow (rows : List Int) : List (List Int) := if 0 < rows.length then [rows] else []
/-- All chomps that go on with rows: at most r rows more, none longer than most. -/
def gen : Nat → Nat → List Int → List (List Int)
  | 0, _, rows => headRow rows
  | r + 1, most, rows => headRow rows ++ (List.range most).flatMap fun i => gen r (i + 1) (rows ++ [((i + 1 : Nat) : Int)])
def genUp (r n : Nat) (rows : List Int) : List (List Int) := (List.range n).flatMap fun i => gen r (i + 1) (rows ++ [((i + 1 : Nat) : Int)])
theorem genUp_zero (r : Nat) (rows : List Int) : genUp r 0 rows = [] := rfl
theorem genUp_succ (r n : Nat) (rows : List Int) : genUp r (n + 1) rows = genUp r n rows ++ gen r (n + 1) (rows ++ [((n + 1 : Nat) : Int)]) := by
  simp [genUp, List.range_succ]
theorem gen_succ (r most : Nat) (rows : List Int) : gen (r + 1) most rows = headRow rows ++ genUp r most rows := rfl
theorem genUp_le (r : Nat) (rows : List Int) {n m : Nat} (h : n ≤ m) : (genUp r n rows).length ≤ (genUp r m rows).length := by
  induction m with
  | zero => obtain rfl : n = 0 := by omega
            exact Nat.le_refl _
  | succ m ih =>
    by_cases hn : n = m + 1
    · subst hn; exact Nat.le_refl _
    · rw [genUp_succ, List.length_append]
      have := ih (by omega)
      omega
section
variable {α : Type} {d : Kd α} {e N0 B b0 : Nat} {ok : Nat → Prop} {W W1 W2 w0 : World} {u v v1 : Value} {ys : List α}
/-- All that lay in W lies on, but block B and the row v. -/
def Kp (W W' : World) (B : Nat) (v : Value) : Prop := W.heap.size ≤ W'.heap.size ∧ ∀ i, i < W.heap.size → i ≠ B → some i ≠ v.ownBlock → W'.heap[i]? = W.heap[i]?
theorem Kp.refl (W : World) (B : Nat) (v : Value) : Kp W W B v := ⟨Nat.le_refl _, fun _ _ _ _ => rfl⟩
theorem Kp.below (h : Kp W W1 B v) (hb : Below W1.heap.size W1 W2) : Kp W W2 B v := ⟨Nat.le_trans h.1 hb.size, fun i hi h1 h2 => (hb.block i (Nat.lt_of_lt_of_le hi h.1)).trans (h.2 i hi h1 h2)⟩
theorem Kp.grown (h : Kp W W1 B v) {row : Option Nat} (hg : W1.grownBy W2 row) (hr : ∀ k, row = some k → W.heap.size ≤ k ∨ v.ownBlock = some k) : Kp W W2 B v :=
  ⟨Nat.le_trans h.1 hg.size, fun i hi h1 h2 => (hg.block i (Nat.lt_of_lt_of_le hi h.1) (fun he => (hr i he.symm).elim (fun h3 => by omega) (fun h3 => h2 h3.symm))).trans (h.2 i hi h1 h2)⟩
theorem Kp.set (h : Kp W W1 B v) (u : Value) : Kp W (W1.setCell ⟨B, 0, none⟩ u) B v :=
  ⟨by simpa [World.setCell] using h.1, fun i hi h1 h2 => (Below.heap_setCell W1 ⟨B, 0, none⟩ u i h1).trans (h.2 i hi h1 h2)⟩
theorem Kp.trans (h : Kp W W1 B v) (k : Kp W1 W2 B v1) (hat : v1.ownBlock = v.ownBlock ∨ ∃ b, v1.ownBlock = some b ∧ W.heap.size ≤ b) : Kp W W2 B v :=
  ⟨Nat.le_trans h.1 k.1, fun i hi h1 h2 => (k.2 i (Nat.lt_of_lt_of_le hi h.1) h1 (by
    rcases hat with he | ⟨b, he, hb⟩
    · rw [he]; exact h2
    · rw [he]; intro h3; injection h3 with h3; omega)).trans (h.2 i hi h1 h2)⟩
theorem Kp.alloc (h : Kp W W1 B v) (o : Obj) : Kp W (W1.alloc o) B v := h.below (below_alloc (Below.refl _ _) o)
theorem Kp.drew (h : Kp W W1 B v) : Kp W W1.drew B v := h
theorem Kp.drewN (h : Kp W W1 B v) (m : Nat) : Kp W (W1.drewN m) B v := h.below (pw_below_drewN (Below.refl _ _) m)
/-- Another block, another row: it lies on. -/
theorem Kp.block (k : Kp W W1 B v) {g : Nat} {o : Obj} (hb : W.heap[g]? = some o) (hg : g ≠ B) (hv : some g ≠ v.ownBlock) : W1.heap[g]? = some o := (k.2 g (blk_lt hb) hg hv).trans hb
/-- A row of elements of another type, over it. -/
theorem R_Kp (h : d.R e W N0 ok u ys) (hv : ∀ k, v.ownBlock = some k → ∃ cells, W.heap[k]? = some (.cells cells 22 (0, 0))) (ht : ∀ q, q ∈ e :: d.E → q ≠ 22) {cb : Array Value} (hB : W.heap[B]? = some (.cells cb 35 (0, 0))) (ht2 : ∀ q, q ∈ e :: d.E → q ≠ 35) (k : Kp W W1 B v) : d.R e W1 N0 ok u ys :=
  Kd.R_mono (Kd.R_move (Kd.R_bound h) (fun i hi => by
    obtain ⟨_, h1, h2, q, hq, cells, hc⟩ := hi
    refine k.2 i h2 (fun he => ?_) (fun he => ?_)
    · subst he
      rw [hc] at hB
      injection hB with hB
      injection hB with _ hB
      exact ht2 q hq hB
    obtain ⟨cells', hc'⟩ := hv i he.symm
    rw [hc] at hc'
    injection hc' with hc'
    injection hc' with _ hc'
    exact ht q hq hc')) (fun _ h => h.1)
/-- A box set anew: rows from N0 on lie on. -/
theorem R_box (h : d.R e W N0 ok u ys) {cb : Array Value} (hB : W.heap[B]? = some (.cells cb 35 (0, 0))) (ht2 : ∀ q, q ∈ e :: d.E → q ≠ 35) (x : Value) : d.R e (W.setCell ⟨B, 0, none⟩ x) N0 ok u ys :=
  Kd.R_mono (Kd.R_move (Kd.R_bound h) (fun i hi => Below.heap_setCell W ⟨B, 0, none⟩ x i (by
    obtain ⟨_, _, _, q, hq, cells, hc⟩ := hi
    show i ≠ B
    rintro rfl
    rw [hc] at hB
    injection hB with hB
    injection hB with _ hB
    exact ht2 q hq hB))) (fun _ h => h.1)
end
/-- The list of rows that a box holds. -/
structure OutAt (W : World) (B N0 : Nat) (v : Value) (xs : List (List Int)) : Prop where
  box : W.heap[B]? = some (.cells #[v] 35 (0, 0))
  row : Kd.R (Kd.slice 3 (Kd.int .i64)) 22 W N0 (fun _ => True) v xs
theorem OutAt.below {W W1 : World} {B N0 : Nat} {v : Value} {xs : List (List Int)} (h : OutAt W B N0 v xs) (hb : Below W.heap.size W W1) : OutAt W1 B N0 v xs := ⟨(hb.block B (blk_lt h.box)).trans h.box, Kd.R_below h.row hb⟩
theorem OutAt.alloc {W : World} {B N0 : Nat} {v : Value} {xs : List (List Int)} (h : OutAt W B N0 v xs) (o : Obj) : OutAt (W.alloc o) B N0 v xs := h.below (below_alloc (Below.refl _ _) o)
theorem OutAt.drew {W : World} {B N0 : Nat} {v : Value} {xs : List (List Int)} (h : OutAt W B N0 v xs) : OutAt W.drew B N0 v xs := h.below (below_drew1 (Below.refl _ _))
theorem OutAt.drewN {W : World} {B N0 : Nat} {v : Value} {xs : List (List Int)} (h : OutAt W B N0 v xs) (m : Nat) : OutAt (W.drewN m) B N0 v xs := h.below (pw_below_drewN (Below.refl _ _) m)
theorem OutAt.typed {W : World} {B N0 : Nat} {v : Value} {xs : List (List Int)} (h : OutAt W B N0 v xs) : ∀ k, v.ownBlock = some k → ∃ cells, W.heap[k]? = some (.cells cells 22 (0, 0)) := Kd.R_typed h.row
/-- A row of numbers of one's own has been written or made: the list lies on. -/
theorem OutAt.grown {W W1 : World} {B N0 : Nat} {v : Value} {xs : List (List Int)} (h : OutAt W B N0 v xs) {row : Option Nat} (hg : W.grownBy W1 row) (hB : some B ≠ row) (hr : Kd.R (Kd.slice 3 (Kd.int .i64)) 22 W1 N0 (fun _ => True) v xs) : OutAt W1 B N0 v xs := ⟨(hg.block B (blk_lt h.box) hB).trans h.box, hr⟩
end Go.Proofs.Ytfppdfphbphhhaa.P
