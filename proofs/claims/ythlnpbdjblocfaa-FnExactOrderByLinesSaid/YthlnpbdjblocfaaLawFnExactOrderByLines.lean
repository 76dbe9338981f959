/- The statement of FnExactOrderByLines, for every input: out of the printed contract and the pure law. Conditions: none beyond the given row's. -/
import Derived.Test.YthlnpbdjblocfaaRows
import Derived.Test.YthlnpbdjblocfaaOLawLines
import Derived.Test.YthlnpbdjblocfaaPureFnExactOrderByLines
import Derived.Test.YthlnpbdjblocfaaHOpen
import Derived.WalkKit
import Derived.ProofKit
import Derived.OpenShut
import Derived.ShutString
import Derived.ChangeOld
import Derived.Below
import Derived.SizedLaws
import Derived.Lib.SmallJoins
import Derived.Deep.Strs
import Derived.Carry
namespace Go.Proofs.Ythlnpbdjblocfaa.fnExactOrderByLines
open Go.ChangeShapes Go.WideShapes Go.ChangeAt Go.RowKit Go.Joins Go.Deep
open Go.ChangeMaps (open_string shut_string)
open Go.Proofs.YthlnpbdjblocfaaW.PrintWords
set_option linter.unusedVariables false
theorem own : ownKnob Try.prog.godebug = none := by kernel_rfl
theorem laidOut : laidOutB Try.prog = true := by kernel_rfl
set_option maxRecDepth 100000 in
theorem lifted (os : Os) (started : os.Started) (H : Type) (enc : TypeId × Value → H) :
    ReturnsInHanded {} Try.checked os 9 .any (Rows.fnExactOrderByLinesSpec.pre6 enc Try.prog Try.f9 Rows.fnExactOrderByLinesRow.domain false) (Rows.fnExactOrderByLinesSpec.post enc Try.prog Try.f9 false true false false) := by
  refine returnsInHanded_of_change_sized (C := Try.checked) own started (by kernel_rfl) Try.func9
    (ChangeSpec.witness6 (enc := enc) (C := Try.checked) false ⟨#[], #[.slice none 0 0, .slice none 0 0], []⟩ 8 (by kernel_rfl) (by kernel_rfl) (by kernel_rfl) (by kernel_rfl)) ?_
  intro W base args ds gs before hval0 hW hcnd hsz0 _
  have hsz : (DataW.weightsEach Try.prog (Try.f9.params.toList ++ Rows.fnExactOrderByLinesSpec.plain.varTypes Try.prog) (ds ++ gs)).all (· ≤ reachBytes) = true := hsz0
  have hval : ∀ (j : Nat) t v, Try.f9.params[j]? = some t → args[j]? = some v → Value.okWide Try.prog W .any base t v := hval0
  have hW' := hW
  obtain ⟨p, q, hA0, hV, rfl, hfz, hnd⟩ := hW
  have hA : DataW.TrodAll enc Try.prog W 0 (fun _ => true) true Try.f9.params.toList args.toList ds p := hA0
  rw [Try.params9] at hA hval hsz
  obtain ⟨v0, vs0, d0, ds0, p0, q0, hargs, rfl, rfl, h0, r0⟩ := trodAll_cons hA
  obtain ⟨v1, vs1, d1, ds1, p1, q1, rfl, rfl, rfl, h1, r1⟩ := trodAll_cons r0
  obtain ⟨rfl, rfl, rfl⟩ := trodAll_nil r1
  obtain rfl : args = #[v0, v1] := by cases args; simp_all
  obtain ⟨rfl, rfl⟩ := trodVars_none hV
  have k0 := h0
  have lt0 : ∀ x ∈ p0, x.block < W.heap.size := by obtain ⟨m, hm⟩ := k0; exact DataW.trod_lt m _ _ _ hm
  obtain ⟨a0, len0, cap0, hv0⟩ := okWide_slice Try.underlying35 (hval 0 35 v0 rfl rfl)
  subst hv0
  have y0 := Open.sized_rows hsz (j := 0) (t := 35) rfl rfl Try.underlying35 (B := 8) (by kernel_rfl) h0
  obtain ⟨l0, hl0, hcp0, hm0, hr0, hw0⟩ := Open.open_rows (α := Int) (Kd.int .i64) (fun x => (Lit.int .i64 x).wf = true) Try.underlying35 (by kernel_rfl) (fun n cs y hy => by obtain ⟨x, e, _, w⟩ := DataW.trod_int Try.underlying3 hy; exact ⟨x, e, w⟩) h0
  subst hl0
  have k1 := h1
  have lt1 : ∀ x ∈ p1, x.block < W.heap.size := by obtain ⟨m, hm⟩ := k1; exact DataW.trod_lt m _ _ _ hm
  obtain ⟨a1, len1, cap1, hv1⟩ := okWide_slice Try.underlying35 (hval 1 35 v1 rfl rfl)
  subst hv1
  have y1 := Open.sized_rows hsz (j := 1) (t := 35) rfl rfl Try.underlying35 (B := 8) (by kernel_rfl) h1
  obtain ⟨l1, hl1, hcp1, hm1, hr1, hw1⟩ := Open.open_rows (α := Int) (Kd.int .i64) (fun x => (Lit.int .i64 x).wf = true) Try.underlying35 (by kernel_rfl) (fun n cs y hy => by obtain ⟨x, e, _, w⟩ := DataW.trod_int Try.underlying3 hy; exact ⟨x, e, w⟩) h1
  subst hl1
  clear hA0 hval0 hsz0 hsz
  obtain ⟨k, h⟩ := Pure.FnExactOrderByLines l0 hm0 y0 hw0 l1 hm1 y1 hw1
  refine (P.laws_FnExactOrderByLines.calls k _ _ l0 _ _ l1 true W hr0 hcp0 hr1 hcp1 h).mono fun e W' ⟨he, bel0⟩ => ?_
  have bel : Below W.heap.size W W' := bel0
  subst he
  exact ⟨_, rfl, _, _, _, [], _, [], hW', trodAll_mk1 (shut_bool Try.underlying4 _), (trodAll_cons_mk (Below.trod laidOut (by kernel_rfl) (of_decide_eq_true (by kernel_rfl)) k0 bel lt0) (trodAll_cons_mk (Below.trod laidOut (by kernel_rfl) (of_decide_eq_true (by kernel_rfl)) k1 bel lt1) trodAll_mk0)), rfl, bel.frame _, fun h => by cases h⟩
theorem over : Rows.fnExactOrderByLinesRow.holds Try.pinned (OpenSpec.ofChange Rows.fnExactOrderByLinesSpec) :=
  OpenClaim.holds_of_wide 9 Try.f9 rfl rfl rfl rfl rfl rfl rfl ⟨rfl, rfl, rfl, rfl, rfl⟩ rfl rfl rfl rfl rfl (by kernel_rfl) Try.func9 (by kernel_rfl)
    (of_decide_eq_true (by kernel_rfl)) (by unfold Func.isWrapper; first | (rw [if_pos (by decide +kernel)]; kernel_rfl) | (rw [if_neg (by decide +kernel)]; exact ⟨rfl, rfl⟩))
    (fun os started H enc _ => lifted os started H enc)
end Go.Proofs.Ythlnpbdjblocfaa.fnExactOrderByLines
namespace Go.Proofs.Ythlnpbdjblocfaa
theorem fnExactOrderByLines_holds : Rows.FnExactOrderByLinesSaid := fnExactOrderByLines.over
#print axioms fnExactOrderByLines_holds
end Go.Proofs.Ythlnpbdjblocfaa
