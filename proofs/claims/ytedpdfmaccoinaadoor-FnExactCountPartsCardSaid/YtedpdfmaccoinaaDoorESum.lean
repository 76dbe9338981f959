/- Parts of nuts, and what is in each. Conditions: nuts, a part inside. -/
import Derived.Test.YtedpdfmaccoinaaDoorDSum
import Derived.Test.YtedpdfmaccoinaaDoorPx13
namespace Go.Proofs.YtedpdfmaccoinaaDoor.Pure
open Go.RowKit Go.Proofs.YtedpdfmaccoinaaDoor.P Go.Proofs.YtedpdfmaccoinaaDoorW.PrintWords Go.Proofs.YtedpdfmaccoinaaDoorW.PrintLast
theorem w64n (a b : Nat) (h : a + b ≤ 1000000000) : wrap64 ((a : Int) + (b : Int)) = ((a + b : Nat) : Int) := by rw [w64 (by omega) (by omega)]; omega
theorem w64s (a : Nat) (h : a ≤ 100000000) : wrap64 ((a : Int) + 1) = ((a + 1 : Nat) : Int) := by rw [w64 (by omega) (by omega)]; omega
theorem nsum_at {l : List ByteArray} {w : Nat} (h : Nuts l w) (x y W H : Nat) (hx : x + W ≤ w) (hy : y + H ≤ l.length) : Ev (fun k => spec_ntSum.f k l (x : Int) (y : Int) ((x + W : Nat) : Int) ((y + H : Nat) : Int)) (partSum l x W y H) := by
  have s := ntSum_ev h x y (x + W) (y + H) (by omega) hx (by omega) hy
  rwa [show x + W - x = W by omega, show y + H - y = H by omega] at s
def rowFrom (y : Nat) : Nat → Nat → List (Nat × Nat)
  | _, 0 => []
  | x, d + 1 => (x, y) :: rowFrom y (x + 1) d
def allFrom (n : Nat) : Nat → Nat → List (Nat × Nat)
  | _, 0 => []
  | y, d + 1 => rowFrom y 0 n ++ allFrom n (y + 1) d
def mkP (W H : Nat) (p : Nat × Nat) : S50 := ⟨(p.1 : Int), (p.2 : Int), ⟨(W : Int), (H : Int)⟩⟩
section
variable {l : List ByteArray} {w : Nat}
theorem parts_l1 (h : Nuts l w) (W H y : Nat) (hy : y + H ≤ l.length) (hW8 : W ≤ 12) (r : List S50) : ∀ (d x : Nat) (acc : List S50), x + d = w + 1 - W → acc.length + d ≤ 1000 →
    Ev (fun k => impl_parts.l0 k l (acc ++ (rowFrom y x d).map (mkP W H)) ((y + 1 : Nat) : Int) (W : Int) (H : Int)) r →
    Ev (fun k => impl_parts.l1 k l acc (y : Int) (x : Int) (W : Int) (H : Int)) r := by
  have h8 := h.rows8
  have h1 := h.rows1
  have w8 := h.wide8
  have h0 : ((rdOf ByteArray.empty l 0).size : Int) = (w : Int) := by
    have := (h.row 0 (by omega)).1
    simp only [Int.natCast_zero] at this
    omega
  intro d
  induction d with
  | zero =>
    intro x acc hx ha next
    rw [show acc ++ (rowFrom y x 0).map (mkP W H) = acc from List.append_nil _] at next
    refine Ev.step (fun k => ?_) next
    simp only [impl_parts.l1, h0]
    rw [if_pos (by omega), w64 (x := (x : Int) + W) (by omega) (by omega), if_neg (by omega), w64 (by omega) (by omega)]
    rfl
  | succ d ih =>
    intro x acc hx ha next
    rw [show acc ++ (rowFrom y x (d + 1)).map (mkP W H) = (acc ++ [mkP W H (x, y)]) ++ (rowFrom y (x + 1) d).map (mkP W H) by simp [rowFrom]] at next
    refine Ev.step (fun k => ?_) (ih (x + 1) (acc ++ [mkP W H (x, y)]) (by omega) (by rw [List.length_append, List.length_singleton]; omega) next)
    simp only [impl_parts.l1, h0]
    rw [if_pos (by omega), w64 (x := (x : Int) + W) (by omega) (by omega), if_pos (by omega), if_pos (by omega), w64 (by omega) (by omega)]
    rfl
theorem rowFrom_len (y : Nat) : ∀ d x, (rowFrom y x d).length = d
  | 0, _ => rfl
  | d + 1, x => by rw [show rowFrom y x (d + 1) = (x, y) :: rowFrom y (x + 1) d from rfl, List.length_cons, rowFrom_len y d]
theorem parts_l0 (h : Nuts l w) (W H : Nat) (hW8 : W ≤ 12) (hH8 : H ≤ 12) : ∀ (d y : Nat) (acc : List S50), (y + d = l.length + 1 - H) → acc.length + 9 * d ≤ 500 →
    Ev (fun k => impl_parts.l0 k l acc (y : Int) (W : Int) (H : Int)) (acc ++ (allFrom (w + 1 - W) y d).map (mkP W H)) := by
  have h8 := h.rows8
  have w8 := h.wide8
  intro d
  induction d with
  | zero =>
    intro y acc hy ha
    rw [show acc ++ (allFrom (w + 1 - W) y 0).map (mkP W H) = acc from List.append_nil _]
    refine Ev.step (f := fun _ => some acc) (fun k => ?_) (Ev.now _)
    simp only [impl_parts.l0]
    rw [w64 (by omega) (by omega), if_neg (by omega)]
  | succ d ih =>
    intro y acc hy ha
    have n := ih (y + 1) (acc ++ (rowFrom y 0 (w + 1 - W)).map (mkP W H)) (by omega) (by rw [List.length_append, List.length_map, rowFrom_len]; omega)
    rw [show acc ++ (allFrom (w + 1 - W) y (d + 1)).map (mkP W H) = (acc ++ (rowFrom y 0 (w + 1 - W)).map (mkP W H)) ++ (allFrom (w + 1 - W) (y + 1) d).map (mkP W H) by simp [allFrom]]
    refine Ev.step (fun k => ?_) (parts_l1 h W H y (by omega) hW8 _ (w + 1 - W) 0 acc (by omega) (by omega) n)
    simp only [impl_parts.l0]
    rw [w64 (by omega) (by omega), if_pos (by omega)]
    rfl
/-- Places inside. -/
def Fits (l : List ByteArray) (w W H : Nat) (ps : List (Nat × Nat)) : Prop := ∀ p ∈ ps, p.1 + W ≤ w ∧ p.2 + H ≤ l.length
theorem rowFrom_fits (W H y : Nat) (hy : y + H ≤ l.length) : ∀ d x, x + d = w + 1 - W → Fits l w W H (rowFrom y x d) := by
  intro d
  induction d with
  | zero => intro x hx p hp; exact absurd hp (List.not_mem_nil)
  | succ d ih =>
    intro x hx p hp
    rcases List.mem_cons.1 hp with rfl | hp
    · exact ⟨by show x + W ≤ w; omega, hy⟩
    · exact ih (x + 1) (by omega) p hp
theorem allFrom_fits (W H : Nat) : ∀ d y, y + d = l.length + 1 - H → Fits l w W H (allFrom (w + 1 - W) y d) := by
  intro d
  induction d with
  | zero => intro y hy p hp; exact absurd hp (List.not_mem_nil)
  | succ d ih =>
    intro y hy p hp
    rcases List.mem_append.1 hp with hp | hp
    · exact rowFrom_fits W H y (by omega) _ 0 (by omega) p hp
    · exact ih (y + 1) (by omega) p hp
theorem allFrom_len (n : Nat) : ∀ d y, (allFrom n y d).length = d * n
  | 0, _ => by simp [allFrom]
  | d + 1, y => by rw [show allFrom n y (d + 1) = rowFrom y 0 n ++ allFrom n (y + 1) d from rfl, List.length_append, rowFrom_len, allFrom_len n d, Nat.succ_mul, Nat.add_comm]

end
end Go.Proofs.YtedpdfmaccoinaaDoor.Pure
