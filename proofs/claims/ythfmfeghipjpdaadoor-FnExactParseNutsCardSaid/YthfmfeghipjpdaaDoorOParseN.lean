/- impl.ParseNuts: what the call comes to. Conditions: the text is shorter than the shelf's reach; the number of bytealg's that the shelf's search reads is where it is laid. -/
import Derived.Test.YthfmfeghipjpdaaDoorPx0
import Derived.Test.YthfmfeghipjpdaaDoorHShelf
import Derived.Test.YthfmfeghipjpdaaDoorOAreNuts
import Derived.Lib.SplitLaws
import Derived.Lib.Hide
namespace Go.Proofs.YthfmfeghipjpdaaDoor.P
open Go.RowKit Go.Proofs.YthfmfeghipjpdaaDoorW.PrintWords Go.Proofs.YthfmfeghipjpdaaDoorW.PrintLast Go.Proofs.YthfmfeghipjpdaaDoorW.PrintMore
set_option linter.unusedVariables false
set_option linter.unusedSimpArgs false
def slashB : ByteArray := ⟨#[47]⟩
def pieces (s : ByteArray) : List ByteArray := Lib.splitB slashB 0 (Lib.countB s slashB) s
theorem pieces_len (s : ByteArray) : (pieces s).length = Lib.countB s slashB + 1 := Lib.splitB_all slashB (by decide) 0 _ s rfl
def impl_ParseNuts.f (a0 : ByteArray) : Option (List ByteArray × Bool) := if a0.size < 4294967281 then (impl_AreNuts.f (pieces a0)).bind fun t => (if t = true then some (pieces a0, true) else some ([], false)) else none
theorem split_call (a0 : ByteArray) (m : Int) (w : World) (hs : a0.size < 4294967281) (hm : w.cell? ⟨0, 0, none⟩ = some (.int .i64 m)) :
    Calls Tryd.prog 69 #[.string a0, .string ⟨#[47]⟩] w fun e w' => ∃ v c, v = .slice (some ⟨w.heap.size, 0, none⟩) (pieces a0).length c ∧ e = .returned v ∧ Kd.R Kd.string 9 w' w.heap.size (fun _ => True) v (pieces a0) ∧ Below w.heap.size w w' := by
  refine (Tryd.strings_Split a0 slashB m w hs hm (by decide)).mono ?_
  rintro e w' ⟨rfl, rfl⟩
  have hl := pieces_len a0
  have hle := Lib.countB_le slashB (by decide) a0.size a0 (Nat.le_refl _)
  refine ⟨_, (pieces a0).length, rfl, by rw [hl], ?_, below_alloc (Below.refl _ _) _⟩
  refine Kd.R_of_own (enc := Value.string) (h1 := fun _ => rfl) ⟨by simp [encs], .inr ⟨w.heap.size, (pieces a0).length, ((pieces a0).map Value.string).toArray, rfl, Nat.le_refl _, heap_alloc_new _ _, Nat.le_refl _, by simp only [maxLen]; omega, by simp, by rw [Nat.mul_one]; show List.take _ (List.map Value.string (pieces a0)) = _; rw [List.take_of_length_le (by simp)]; rfl⟩⟩ (fun _ _ => trivial)
set_option maxHeartbeats 4000000 in
set_option maxRecDepth 100000 in
theorem impl_ParseNuts.calls (a0 : ByteArray) (m : Int) (r1 : List ByteArray) (r2 : Bool) (w : World) (hm : w.cell? ⟨0, 0, none⟩ = some (.int .i64 m)) (h : impl_ParseNuts.f a0 = some (r1, r2)) :
    Calls Tryd.prog 44 #[.string a0] w fun e w' => ∃ v0_ : Value, e = .returned (.tuple #[v0_, .bool r2]) ∧ Kd.R Kd.string 9 w' w.heap.size (fun _ => True) v0_ r1 ∧ Below w.heap.size w w' := by
  unfold impl_ParseNuts.f at h
  by_cases hs : a0.size < 4294967281
  case neg =>
    rw [if_neg hs] at h
    cases h
  rw [if_pos hs] at h
  obtain ⟨t, h1, h2⟩ := Option.bind_eq_some_iff.1 h
  clear h
  have SP := Lib.hid (fun (_ : Unit) => split_call a0 m w hs hm)
  have AN := Lib.hid h1
  clear hm hs h1
  cases t with
  | false =>
    simp only [Bool.false_eq_true, if_false, Option.some.injEq, Prod.mk.injEq] at h2
    obtain ⟨rfl, rfl⟩ := h2
    go_enter Tryd.func44, Tryd.ntmps44
    go_wp2_with (first | (go_at_call 69; refine (SP.out ()).mono ?_; rintro e w1 ⟨v, c, rfl, rfl, ho, hb⟩; have HO := Aside0.mk ho; have HB := Aside0.mk hb; clear ho hb) | (go_at_call 17; refine (impl_AreNuts.calls _ _ (pieces a0) false _ ((Kd.R_reads' HO.out).2.2) (Kd.R_reads' HO.out).2.1 AN.out).mono ?_; rintro e w2 ⟨rfl, hb⟩; have HB2 := Aside0.mk (below_step HB.out hb); clear hb))
    go_ret2
    exact ⟨_, rfl, Kd.R_nil _ _ _ _ _, HB2.out⟩
  | true =>
    simp only [if_true, Option.some.injEq, Prod.mk.injEq] at h2
    obtain ⟨h3, rfl⟩ := h2
    have E1 := Aside0.mk h3
    clear h3
    go_enter Tryd.func44, Tryd.ntmps44
    go_wp2_with (first | (go_at_call 69; refine (SP.out ()).mono ?_; rintro e w1 ⟨v, c, rfl, rfl, ho, hb⟩; have HO := Aside0.mk ho; have HB := Aside0.mk hb; clear ho hb) | (go_at_call 17; refine (impl_AreNuts.calls _ _ (pieces a0) true _ ((Kd.R_reads' HO.out).2.2) (Kd.R_reads' HO.out).2.1 AN.out).mono ?_; rintro e w2 ⟨rfl, hb⟩; have HB2 := Aside0.mk (below_step HB.out hb); have HO2 := Aside0.mk (Kd.R_below HO.out hb); clear hb))
    go_ret2
    exact ⟨_, rfl, by rw [← E1.out]; exact HO2.out, HB2.out⟩
end Go.Proofs.YthfmfeghipjpdaaDoor.P
