/- The statement of FnExactLengthOfBreaks, for every input: out of the printed contract and the pure law. Conditions: none beyond the given row's. -/
import Derived.Test.YtocpeikkaciecaaRows
import Derived.Test.YtocpeikkaciecaaPx49
import Derived.Test.YtocpeikkaciecaaPureFnExactLengthOfBreaks
import Derived.Test.YtocpeikkaciecaaHOpen
import Derived.WalkKit
import Derived.ProofKit
import Derived.OpenShut
import Derived.ShutString
import Derived.ChangeOld
import Derived.Below
import Derived.SizedLaws
import Derived.Lib.SmallJoins
import Derived.Deep.Strs
import Derived.Carry
namespace Go.Proofs.Ytocpeikkaciecaa.fnExactLengthOfBreaks
open Go.ChangeShapes Go.WideShapes Go.ChangeAt Go.RowKit Go.Joins Go.Deep
open Go.ChangeMaps (open_string shut_string)
open Go.Proofs.YtocpeikkaciecaaW.PrintWords
set_option linter.unusedVariables false
theorem own : ownKnob Try.prog.godebug = none := by kernel_rfl
theorem laidOut : laidOutB Try.prog = true := by kernel_rfl
theorem cells24 : Try.prog.cellsOf 24 = 2 := by kernel_rfl
def wf54 (x : P.S54) : Prop := (Lit.int .i64 x.f0).wf = true ∧ (Lit.int .i64 x.f2).wf = true
theorem each54 {H : Type} {enc : TypeId × Value → H} {W : World} {spare : Nat → Bool} : ∀ n cs y, DataW.trod enc Try.prog W 0 spare true n 54 cs = some y → ∃ x : P.S54, P.k54.K W x cs ∧ wf54 x := by
  intro n cs y hy
  obtain ⟨y0, y1, y2, m, _, hl, h0, h1, h2⟩ := trod_struct3 Try.underlying54 hy
  have hlen : cs.length = 3 := hl.trans (by kernel_rfl)
  have cc3 : Try.prog.cellsOf 3 = 1 := by kernel_rfl
  have cc4 : Try.prog.cellsOf 4 = 1 := by kernel_rfl
  obtain ⟨c0, c1, c2, rfl⟩ : ∃ c0 c1 c2, cs = [c0, c1, c2] := by
    match cs, hlen with
    | [c0, c1, c2], _ => exact ⟨c0, c1, c2, rfl⟩
  simp only [cc3, cc4] at h0 h1 h2
  obtain ⟨x0, e0, _, w0⟩ := DataW.trod_int Try.underlying3 h0
  obtain ⟨x1, e1, _⟩ := DataW.trod_bool Try.underlying4 h1
  obtain ⟨x2, e2, _, w2⟩ := DataW.trod_int Try.underlying3 h2
  simp at e0 e1 e2
  subst e0 e1 e2
  exact ⟨⟨x0, x1, x2⟩, P.k54_mk W ⟨x0, x1, x2⟩, w0, w2⟩
set_option maxRecDepth 100000 in
theorem lifted (os : Os) (started : os.Started) (H : Type) (enc : TypeId × Value → H) :
    ReturnsInHanded {} Try.checked os 11 .any (Rows.fnExactLengthOfBreaksSpec.pre6 enc Try.prog Try.f11 Rows.fnExactLengthOfBreaksRow.domain false) (Rows.fnExactLengthOfBreaksSpec.post enc Try.prog Try.f11 false true false false) := by
  refine returnsInHanded_of_change_sized (C := Try.checked) own started (by kernel_rfl) Try.func11
    (ChangeSpec.witness6 (enc := enc) (C := Try.checked) false ⟨#[], #[.agg #[.int .i64 0, .int .i64 0], .slice none 0 0], []⟩ 8 (by kernel_rfl) (by kernel_rfl) (by kernel_rfl) (by kernel_rfl)) ?_
  intro W base args ds gs before hval0 hW hcnd hsz0 _
  have hsz : (DataW.weightsEach Try.prog (Try.f11.params.toList ++ Rows.fnExactLengthOfBreaksSpec.plain.varTypes Try.prog) (ds ++ gs)).all (· ≤ reachBytes) = true := hsz0
  have hval : ∀ (j : Nat) t v, Try.f11.params[j]? = some t → args[j]? = some v → Value.okWide Try.prog W .any base t v := hval0
  have hW' := hW
  obtain ⟨p, q, hA0, hV, rfl, hfz, hnd⟩ := hW
  have hA : DataW.TrodAll enc Try.prog W 0 (fun _ => true) true Try.f11.params.toList args.toList ds p := hA0
  rw [Try.params11] at hA hval hsz
  obtain ⟨v0, vs0, d0, ds0, p0, q0, hargs, rfl, rfl, h0, r0⟩ := trodAll_cons hA
  obtain ⟨v1, vs1, d1, ds1, p1, q1, rfl, rfl, rfl, h1, r1⟩ := trodAll_cons r0
  obtain ⟨rfl, rfl, rfl⟩ := trodAll_nil r1
  obtain rfl : args = #[v0, v1] := by cases args; simp_all
  obtain ⟨rfl, rfl⟩ := trodVars_none hV
  have k0 := h0
  have lt0 : ∀ x ∈ p0, x.block < W.heap.size := by obtain ⟨m, hm⟩ := k0; exact DataW.trod_lt m _ _ _ hm
  obtain ⟨c0_0, c0_1, y0_0, y0_1, m0, hv0, _, _, hy0_0, hy0_1⟩ := open_agg2 Try.underlying24 (by kernel_rfl) cells24 (hval 0 24 v0 rfl rfl) h0
  subst hv0
  obtain ⟨a0_0, e0_0, _, w0_0⟩ := DataW.trod_int Try.underlying3 hy0_0
  simp at e0_0
  subst e0_0
  obtain ⟨a0_1, e0_1, _, w0_1⟩ := DataW.trod_int Try.underlying3 hy0_1
  simp at e0_1
  subst e0_1
  have k1 := h1
  have lt1 : ∀ x ∈ p1, x.block < W.heap.size := by obtain ⟨m, hm⟩ := k1; exact DataW.trod_lt m _ _ _ hm
  obtain ⟨a1, len1, cap1, hv1⟩ := okWide_slice Try.underlying48 (hval 1 48 v1 rfl rfl)
  subst hv1
  have y1 := Open.sized_rows hsz (j := 1) (t := 48) rfl rfl Try.underlying48 (B := 24) (by kernel_rfl) h1
  haveI : Inhabited P.S54 := ⟨P.z54⟩
  obtain ⟨l1, hl1, hcp1, hm1, hr1, hw1⟩ := Open.open_rows (P.k54) wf54 Try.underlying48 (by kernel_rfl) each54 h1
  subst hl1
  clear hA0 hval0 hsz0 hsz
  obtain ⟨k, h⟩ := Pure.FnExactLengthOfBreaks a0_0 a0_1 w0_0 w0_1 l1 hm1 y1 hw1
  refine (P.laws_FnExactLengthOfBreaks.calls k a0_0 a0_1 _ _ l1 true W hr1 hcp1 h).mono fun e W' ⟨he, bel0⟩ => ?_
  have bel : Below W.heap.size W W' := bel0
  subst he
  exact ⟨_, rfl, _, _, _, [], _, [], hW', trodAll_mk1 (shut_bool Try.underlying4 _), (trodAll_cons_mk (Below.trod laidOut (by kernel_rfl) (of_decide_eq_true (by kernel_rfl)) k0 bel lt0) (trodAll_cons_mk (Below.trod laidOut (by kernel_rfl) (of_decide_eq_true (by kernel_rfl)) k1 bel lt1) trodAll_mk0)), rfl, bel.frame _, fun h => by cases h⟩
theorem over : Rows.fnExactLengthOfBreaksRow.holds Try.pinned (OpenSpec.ofChange Rows.fnExactLengthOfBreaksSpec) :=
  OpenClaim.holds_of_wide 11 Try.f11 rfl rfl rfl rfl rfl rfl rfl ⟨rfl, rfl, rfl, rfl, rfl⟩ rfl rfl rfl rfl rfl (by kernel_rfl) Try.func11 (by kernel_rfl)
    (of_decide_eq_true (by kernel_rfl)) (by unfold Func.isWrapper; first | (rw [if_pos (by decide +kernel)]; kernel_rfl) | (rw [if_neg (by decide +kernel)]; exact ⟨rfl, rfl⟩))
    (fun os started H enc _ => lifted os started H enc)
end Go.Proofs.Ytocpeikkaciecaa.fnExactLengthOfBreaks
namespace Go.Proofs.Ytocpeikkaciecaa
theorem fnExactLengthOfBreaks_holds : Rows.FnExactLengthOfBreaksSaid := fnExactLengthOfBreaks.over
#print axioms fnExactLengthOfBreaks_holds
end Go.Proofs.Ytocpeikkaciecaa
