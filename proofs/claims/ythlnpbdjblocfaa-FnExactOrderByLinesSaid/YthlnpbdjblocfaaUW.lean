/- Small facts on numbers: the wrap of what fits; the tests of bounds. -/
import Derived.Test.YthlnpbdjblocfaaPx1
import Derived.Test.YthlnpbdjblocfaaPx10
namespace Go.Proofs.Ythlnpbdjblocfaa.Pure
open Go.RowKit Go.Proofs.Ythlnpbdjblocfaa.P Go.Proofs.YthlnpbdjblocfaaW.PrintWords Go.Proofs.YthlnpbdjblocfaaW.PrintLast
theorem w64 {x : Int} (h0 : -9223372036854775808 ≤ x) (h1 : x ≤ 9223372036854775807) : wrap64 x = x := by
  unfold wrap64
  omega
theorem wf64 {x : Int} (h : (Lit.int .i64 x).wf = true) : -9223372036854775808 ≤ x ∧ x ≤ 9223372036854775807 := by
  simp [Lit.wf, IntKind.min, IntKind.max, IntKind.signed, IntKind.bits] at h
  omega
theorem l1In_some (a lo hi : Int) : spec_l1In.f a lo hi = some (decide (lo ≤ a ∧ a ≤ hi)) := by
  unfold spec_l1In.f
  by_cases h : a ≥ lo
  · rw [if_pos h]
    simp [show lo ≤ a from h]
  · rw [if_neg h]
    simp [show ¬ lo ≤ a from h]
theorem within_some (a lo hi : Int) : impl_within.f a lo hi = some (decide (lo ≤ a ∧ a ≤ hi)) := by
  unfold impl_within.f
  by_cases h : lo ≤ a
  · rw [if_pos h]
    simp [h]
  · rw [if_neg h]
    simp [h]
theorem rd_get (l : List Int) (i : Nat) (v : Int) (h : l[i]? = some v) : rd l (i : Int) = v := by
  unfold rd
  simp [h]
theorem rd_lt (l : List Int) (i : Nat) (h : i < l.length) : rd l (i : Int) = l[i] := rd_get l i _ (List.getElem?_eq_getElem h)
/-- A value that is there already, handed on (the rest stays folded). -/
theorem ev_val {α β : Type} {o : Option α} {a : α} {f : Nat → α → Option β} {r : β} (h : o = some a) (k : Ev (fun n => f n a) r) : Ev (fun n => o.bind (f n)) r := by
  subst h
  exact k
theorem ev_if_pos {β : Type} {c : Prop} [Decidable c] {f g : Nat → Option β} {r : β} (h : c) (k : Ev f r) : Ev (fun n => if c then f n else g n) r := by
  simp only [if_pos h]
  exact k
theorem ev_if_neg {β : Type} {c : Prop} [Decidable c] {f g : Nat → Option β} {r : β} (h : ¬ c) (k : Ev g r) : Ev (fun n => if c then f n else g n) r := by
  simp only [if_neg h]
  exact k
end Go.Proofs.Ythlnpbdjblocfaa.Pure
