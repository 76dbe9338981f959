/- A string's iterator beside rows of the call's own: what its step leaves. Conditions: the block holds the iterator. -/
import Derived.Test.YthfmfeghipjpdaaDoorWMore
import Derived.WalkSmall
import Derived.Lib.OthersKept
namespace Go.Proofs.YthfmfeghipjpdaaDoor.P
open Go.RowKit Go.Proofs.YthfmfeghipjpdaaDoorW.PrintWords Go.Proofs.YthfmfeghipjpdaaDoorW.PrintLast Go.Proofs.YthfmfeghipjpdaaDoorW.PrintMore
/-- A text of bytes below 128, within the reach. -/
def asciiB (s : ByteArray) : Bool := decide (s.size ≤ 140737488351232) && s.data.toList.all (fun b => decide (b.toNat < 128))
theorem asciiB_size {s : ByteArray} (h : asciiB s = true) : s.size ≤ 140737488351232 := by
  unfold asciiB at h
  rw [Bool.and_eq_true, decide_eq_true_eq] at h
  exact h.1
theorem asciiB_at {s : ByteArray} (h : asciiB s = true) (p : Nat) (hp : p < s.size) : (s[p]'hp).toNat < 128 := by
  unfold asciiB at h
  rw [Bool.and_eq_true, List.all_eq_true] at h
  have := h.2 (s.data.toList[p]'hp) (List.getElem_mem hp)
  rw [decide_eq_true_eq] at this
  exact this
section
variable {α : Type} {d : Kd α} {e base it p : Nat} {ok : Nat → Prop} {W w : World} {v : Value} {xs : List α} {s : ByteArray}
theorem R_iterAt (h : d.R e W base ok v xs) (hk : W.heap[it]? = some (.stringIter s p)) (p' : Nat) : d.R e (W.iterAt it s p') base ok v xs :=
  Kd.R_mono (Kd.R_move (Kd.R_bound h) (fun k hk' => Lib.iterAt_other W it k s p' (by
    obtain ⟨_, _, _, q, _, cells, hc⟩ := hk'
    rintro rfl
    rw [hc] at hk
    cases hk))) (fun _ h => h.1)
theorem R_ne_iter (h : d.R e W base ok v xs) (hk : W.heap[it]? = some (.stringIter s p)) : some it ≠ v.ownBlock := fun he => by
  obtain ⟨cells, hc⟩ := Kd.R_typed h it he.symm
  rw [hc] at hk
  cases hk
/-- One step on: the world behind it. -/
theorem iter_next {P : Program} (hs : asciiB s = true) (hp : p < s.size) (hk : W.heap[it]? = some (.stringIter s p)) (hB : Below base w W) (hi : base ≤ it) :
    ∃ W2 : World, (∀ ty, (Instr.next (.pointer (some ⟨it, 0, none⟩)) true ty).run P W = .ok (.tuple #[.bool true, .int .i64 p, .int .i32 (s[p]'hp).toNat]) W2) ∧ W2.heap[it]? = some (.stringIter s (p + 1)) ∧ Below base w W2 ∧
      ∀ {α : Type} {d : Kd α} {e b : Nat} {ok : Nat → Prop} {v : Value} {xs : List α}, d.R e W b ok v xs → d.R e W2 b ok v xs :=
  ⟨W.iterAt it s (p + 1), fun ty => Lib.run_next_ascii_at W it s p ty hk hp (asciiB_at hs p hp), Lib.iterAt_heap W it s p (p + 1) hk, Lib.below_iterAt hB hi s (p + 1), fun h => R_iterAt h hk (p + 1)⟩
end
end Go.Proofs.YthfmfeghipjpdaaDoor.P
