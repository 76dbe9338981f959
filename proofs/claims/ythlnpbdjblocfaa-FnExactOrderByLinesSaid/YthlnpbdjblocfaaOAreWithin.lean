/- areWithin: whether all numbers of a list lie in low..high: what the call comes to. Condition: the slice reads as the list. -/
import Derived.Test.YthlnpbdjblocfaaPx0
import Derived.Test.YthlnpbdjblocfaaPx10
import Derived.Test.YthlnpbdjblocfaaHShelf
import Derived.Test.YthlnpbdjblocfaaHCells
import Derived.Lib.Hide
namespace Go.Proofs.Ythlnpbdjblocfaa.P
open Go.RowKit Go.Proofs.YthlnpbdjblocfaaW.PrintWords Go.Proofs.YthlnpbdjblocfaaW.PrintLast Go.Proofs.YthlnpbdjblocfaaW.PrintMore
set_option linter.unusedVariables false

def impl_areWithin.f (l0 : List (Int)) (a1 : Int) (a2 : Int) : Option (Bool) := some (l0.all fun x => decide (a1 ≤ x ∧ x ≤ a2))

def outside (lo hi x : Int) : Bool := !decide (lo ≤ x ∧ x ≤ hi)
theorem impl_areWithin.within_eq (x lo hi : Int) : impl_within.f x lo hi = some (decide (lo ≤ x ∧ x ≤ hi)) := by
  unfold impl_within.f
  by_cases h : lo ≤ x
  · rw [if_pos h]
    simp [h]
  · rw [if_neg h]
    simp [h]
set_option maxHeartbeats 1000000 in
/-- The literal that is handed on, in whatever world in which its two variables lie. -/
theorem impl_areWithin.lit (b0 b1 : Nat) (lo hi x : Int) (W : World) (h0 : W.cell? ⟨b0, 0, none⟩ = some (.int .i64 lo)) (h1 : W.cell? ⟨b1, 0, none⟩ = some (.int .i64 hi)) :
    Calls Try.prog 70 #[.int .i64 x, .pointer (some ⟨b0, 0, none⟩), .pointer (some ⟨b1, 0, none⟩)] W fun e w' => e = .returned (.bool (outside lo hi x)) ∧ ∃ q, w' = W.drewN q := by
  have C := impl_within.calls x lo hi _ W (impl_areWithin.within_eq x lo hi)
  unfold outside
  generalize decide (lo ≤ x ∧ x ≤ hi) = r at C ⊢
  have HC := Lib.hid C
  clear C
  go_enter Try.func70, Try.ntmps70
  go_wp2_with (go_at_call 37; refine HC.out.mono ?_; rintro e w' ⟨rfl, ⟨q, rfl⟩⟩)
  go_ret
  exact ⟨rfl, q, rfl⟩

theorem impl_areWithin.pred (b0 b1 : Nat) (lo hi : Int) (w : World) (l0 : b0 < w.heap.size) (l1 : b1 < w.heap.size) (h0 : w.cell? ⟨b0, 0, none⟩ = some (.int .i64 lo)) (h1 : w.cell? ⟨b1, 0, none⟩ = some (.int .i64 hi)) :
    PredAt Try.prog 70 #[.pointer (some ⟨b0, 0, none⟩), .pointer (some ⟨b1, 0, none⟩)] (Value.int .i64) (outside lo hi) w := by
  intro W x hb
  exact impl_areWithin.lit b0 b1 lo hi x W ((hb.cell (p := ⟨b0, 0, none⟩) l0).trans h0) ((hb.cell (p := ⟨b1, 0, none⟩) l1).trans h1)

theorem all_outside (l : List Int) (lo hi : Int) : (!l.any (outside lo hi)) = l.all fun x => decide (lo ≤ x ∧ x ≤ hi) := by
  unfold outside
  induction l with
  | nil => rfl
  | cons x l ih =>
    rw [List.any_cons, List.all_cons, Bool.not_or, ih]
    simp

set_option maxHeartbeats 8000000 in
set_option maxRecDepth 100000 in
theorem impl_areWithin.calls (A0 : Option Addr) (c0 : Nat) (l0 : List (Int)) (a1 : Int) (a2 : Int) (r : Bool) (w : World) (hr0 : Kd.C (Kd.int .i64) w A0 l0.length l0) (hc0 : l0.length ≤ c0) (h : impl_areWithin.f l0 a1 a2 = some r) :
    Calls Try.prog 62 #[.slice A0 l0.length c0, .int .i64 a1, .int .i64 a2] w fun e w' => e = .returned (.bool r) ∧ Below w.heap.size w w' := by
  have hr : r = !(l0.any (outside a1 a2)) := by
    rw [all_outside]
    exact (Option.some.inj h).symm
  subst hr
  clear h
  have hC : ∀ W : World, Below w.heap.size w W → w.heap.size + 1 < W.heap.size → W.cell? ⟨w.heap.size, 0, none⟩ = some (.int .i64 a1) → W.cell? ⟨w.heap.size + 1, 0, none⟩ = some (.int .i64 a2) →
      Calls Try.prog 69 #[.slice A0 l0.length c0, .func (.func 70) #[] #[.pointer (some ⟨w.heap.size, 0, none⟩), .pointer (some ⟨w.heap.size + 1, 0, none⟩)]] W fun e w' => e = .returned (.bool (l0.any (outside a1 a2))) ∧ ∃ q, w' = W.drewN q := by
    intro W hb hs h0 h1
    by_cases hp : 0 < l0.length
    · obtain ⟨b, off, rfl, hbl, hc⟩ := Open.C_at hr0 hp
      have := Try.slices_ContainsFunc (Value.int .i64) (outside a1 a2) 70 #[.pointer (some ⟨w.heap.size, 0, none⟩), .pointer (some ⟨w.heap.size + 1, 0, none⟩)] (enters_of Try.func70 (by kernel_rfl) rfl) b off l0.length c0 l0 W
        (impl_areWithin.pred _ _ a1 a2 W (by omega) hs h0 h1) (Nat.le_refl _) hr0.2.1 (fun j hj => (hb.cell (p := ⟨b, off + j, none⟩) hbl).trans (hc j hj))
      rw [List.take_length] at this
      exact this
    · have hn : l0 = [] := List.eq_nil_of_length_eq_zero (by omega)
      subst hn
      exact (Try.slices_ContainsFunc_empty (α := Int) A0 c0 _ W).mono fun e w' ⟨he, hw⟩ => ⟨he, 0, hw⟩
  generalize l0.any (outside a1 a2) = r at hC ⊢
  have HC := Lib.hid hC
  clear hC hr0 hc0
  go_enter Try.func62, Try.ntmps62
  go_wp2_with (go_at_call 69; refine (HC.out _ (((Below.refl _ _).alloc (Nat.le_refl _) _).alloc (by simp) _) (by simp) (by simp) (by simp)).mono ?_; rintro e w' ⟨rfl, q, rfl⟩)
  go_ret
  exact ⟨rfl, pw_below_drewN (((Below.refl _ _).alloc (Nat.le_refl _) _).alloc (by simp) _) q⟩
end Go.Proofs.Ythlnpbdjblocfaa.P
