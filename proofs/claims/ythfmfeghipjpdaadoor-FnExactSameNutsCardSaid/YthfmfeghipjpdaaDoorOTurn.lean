/- impl.turned in the printed contract's form. Condition: 1 to 8 rows, each of one and the same width, 1 to 8. -/
import Derived.Test.YthfmfeghipjpdaaDoorOTurned
import Derived.Test.YthfmfeghipjpdaaDoorHCells
namespace Go.Proofs.YthfmfeghipjpdaaDoor.P
open Go.RowKit Go.Proofs.YthfmfeghipjpdaaDoorW.PrintWords Go.Proofs.YthfmfeghipjpdaaDoorW.PrintLast Go.Proofs.YthfmfeghipjpdaaDoorW.PrintMore
set_option linter.unusedVariables false
def impl_turned.f (l0 : List ByteArray) : Option (List ByteArray) := if 1 ≤ l0.length ∧ l0.length ≤ 8 ∧ 1 ≤ (l0[0]!).size ∧ (l0[0]!).size ≤ 8 ∧ (l0.all fun s => s.size == (l0[0]!).size) = true then some (turnB l0 (l0[0]!).size) else none
theorem impl_turned.calls (A0 : Option Addr) (c0 : Nat) (l0 : List ByteArray) (r : List ByteArray) (w : World) (hr0 : Kd.C Kd.string w A0 l0.length l0) (hc0 : l0.length ≤ c0) (h : impl_turned.f l0 = some r) :
    Calls Tryd.prog 62 #[.slice A0 l0.length c0] w fun e w' => ∃ v0_ : Value, e = .returned (v0_) ∧ Kd.R Kd.string 9 w' w.heap.size (fun _ => True) v0_ r ∧ Below w.heap.size w w' := by
  unfold impl_turned.f at h
  by_cases hc : 1 ≤ l0.length ∧ l0.length ≤ 8 ∧ 1 ≤ (l0[0]!).size ∧ (l0[0]!).size ≤ 8 ∧ (l0.all fun s => s.size == (l0[0]!).size) = true
  case neg =>
    rw [if_neg hc] at h
    cases h
  rw [if_pos hc] at h
  cases h
  obtain ⟨h1, h8, w1, w8, ha⟩ := hc
  obtain ⟨b, off, rfl, hbl, hcl⟩ := Open.C_at hr0 (by omega)
  refine (turned_calls b off c0 l0 (l0[0]!).size w h1 h8 w1 w8 (fun s hs => beq_iff_eq.1 (List.all_eq_true.1 ha s hs)) hbl hcl).mono ?_
  rintro e w' ⟨v, rfl, ho, hb⟩
  refine ⟨v, rfl, Kd.R_of_own (enc := Value.string) (h1 := fun _ => rfl) ?_ (fun _ _ => trivial), hb⟩
  have hl : (turnB l0 (l0[0]!).size).length = (l0[0]!).size := by simp [turnB]
  rw [hl]
  exact ho
end Go.Proofs.YthfmfeghipjpdaaDoor.P
