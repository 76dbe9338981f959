/- Which lists are chomps: the program's way and the reference's say the same. Condition: a list shorter than any machine's memory. -/
import Derived.Test.YtfppdfphbphhhaaUW
import Derived.Test.YtfppdfphbphhhaaPx3
import Derived.Test.YtfppdfphbphhhaaPx10
namespace Go.Proofs.Ytfppdfphbphhhaa.Pure
open Go.RowKit Go.Proofs.Ytfppdfphbphhhaa.P Go.Proofs.YtfppdfphbphhhaaW.PrintWords Go.Proofs.YtfppdfphbphhhaaW.PrintLast
theorem l1All_l0 (lo hi : Int) (l : List Int) (hn : l.length ≤ 1048576) : ∀ (d i : Nat), i + d = l.length → Ev (fun k => spec_l1All.l0 k lo hi l (l.length : Int) (i : Int)) ((l.drop i).all fun x => decide (lo ≤ x ∧ x ≤ hi)) := by
  intro d
  induction d with
  | zero =>
    intro i hi'
    rw [List.drop_of_length_le (by omega)]
    exact Ev.step (f := fun _ => some true) (fun k => by simp only [spec_l1All.l0]; rw [if_neg (by omega)]) (Ev.now _)
  | succ d ih =>
    intro i hi'
    have hlt : i < l.length := by omega
    rw [List.drop_eq_getElem_cons hlt, List.all_cons]
    have s := ih (i + 1) (by omega)
    by_cases h : lo ≤ l[i] ∧ l[i] ≤ hi
    · rw [decide_eq_true h, Bool.true_and]
      refine Ev.step (fun k => ?_) s
      simp only [spec_l1All.l0, rd_lt l i hlt, l1In_some, Option.bind_some]
      rw [if_pos (by omega), if_pos (by omega), if_pos (by omega), if_pos (by simpa using h), w64 (by omega) (by omega)]
      rfl
    · rw [decide_eq_false h, Bool.false_and]
      refine Ev.step (f := fun _ => some false) (fun k => ?_) (Ev.now _)
      simp only [spec_l1All.l0, rd_lt l i hlt, l1In_some, Option.bind_some]
      rw [if_pos (by omega), if_pos (by omega), if_pos (by omega), if_neg (by simpa using h)]
theorem l1All_ev (lo hi : Int) (l : List Int) (hn : l.length ≤ 1048576) : Ev (fun k => spec_l1All.f k l lo hi) (l.all fun x => decide (lo ≤ x ∧ x ≤ hi)) := l1All_l0 lo hi l hn l.length 0 (by omega)

def sideC (l : List Int) : Bool := decide (1 ≤ (l.length : Int) ∧ (l.length : Int) ≤ 6) && l.all fun x => decide (1 ≤ x ∧ x ≤ 6)
def Desc (l : List Int) (i : Nat) : Prop := ∀ j, i ≤ j → j < l.length → rd l (j : Int) ≤ rd l ((j : Int) - 1)
theorem desc_l0 (l : List Int) (hn : l.length ≤ 1048576) : ∀ (d i : Nat), 1 ≤ i → l.length ≤ i + d → ∃ b : Bool, (b = true → Desc l i) ∧ Ev (fun k => spec_cmGood.l0 k l (i : Int)) b ∧ Ev (fun k => impl_IsChomp.l0 k l (i : Int)) (b && sideC l) := by
  intro d
  induction d with
  | zero =>
    intro i hi hd
    refine ⟨true, fun _ j h1 h2 => by omega, Ev.step (f := fun _ => some true) (fun k => by simp only [spec_cmGood.l0]; rw [if_neg (by omega)]) (Ev.now _), Ev.step (f := fun _ => some (true && sideC l)) (fun k => ?_) (Ev.now _)⟩
    simp only [impl_IsChomp.l0]
    rw [if_neg (by omega)]
    simp only [impl_isSide.f, within_some, Option.bind_some, impl_areWithin.f, sideC, Bool.true_and]
    by_cases h : 1 ≤ (l.length : Int) ∧ (l.length : Int) ≤ 6
    · rw [decide_eq_true h, if_pos rfl, Bool.true_and]
    · rw [decide_eq_false h, if_neg (by decide), Bool.false_and]
  | succ d ih =>
    intro i hi hd
    by_cases hlt : i < l.length
    · have w1 : wrap64 ((i : Int) - 1) = (i : Int) - 1 := w64 (by omega) (by omega)
      by_cases h : rd l (i : Int) > rd l ((i : Int) - 1)
      · refine ⟨false, fun e => by simp at e, Ev.step (f := fun _ => some false) (fun k => ?_) (Ev.now _), Ev.step (f := fun _ => some (false && sideC l)) (fun k => ?_) (Ev.now _)⟩
        · simp only [spec_cmGood.l0, w1]
          rw [if_pos (by omega), if_pos (by omega), if_pos (by omega), if_pos (by omega), if_pos h]
        · simp only [impl_IsChomp.l0, w1, Bool.false_and]
          rw [if_pos (by omega), if_pos (by omega), if_pos (by omega), if_pos (by omega), if_pos h]
      · obtain ⟨b, hb, s1, s2⟩ := ih (i + 1) (by omega) (by omega)
        refine ⟨b, fun e j h1 h2 => ?_, Ev.step (fun k => ?_) s1, Ev.step (fun k => ?_) s2⟩
        · by_cases hj : j = i
          · subst hj
            omega
          · exact hb e j (by omega) h2
        · simp only [spec_cmGood.l0, w1]
          rw [if_pos (by omega), if_pos (by omega), if_pos (by omega), if_pos (by omega), if_neg h, w64 (by omega) (by omega)]
          rfl
        · simp only [impl_IsChomp.l0, w1]
          rw [if_pos (by omega), if_pos (by omega), if_pos (by omega), if_pos (by omega), if_neg h, w64 (by omega) (by omega)]
          rfl
    · refine ⟨true, fun _ j h1 h2 => by omega, Ev.step (f := fun _ => some true) (fun k => by simp only [spec_cmGood.l0]; rw [if_neg (by omega)]) (Ev.now _), Ev.step (f := fun _ => some (true && sideC l)) (fun k => ?_) (Ev.now _)⟩
      simp only [impl_IsChomp.l0]
      rw [if_neg (by omega)]
      simp only [impl_isSide.f, within_some, Option.bind_some, impl_areWithin.f, sideC, Bool.true_and]
      by_cases h : 1 ≤ (l.length : Int) ∧ (l.length : Int) ≤ 6
      · rw [decide_eq_true h, if_pos rfl, Bool.true_and]
      · rw [decide_eq_false h, if_neg (by decide), Bool.false_and]

theorem sideC_true {l : List Int} (h : sideC l = true) : 1 ≤ l.length ∧ l.length ≤ 6 ∧ ∀ x ∈ l, 1 ≤ x ∧ x ≤ 6 := by
  unfold sideC at h
  simp only [Bool.and_eq_true, decide_eq_true_eq, List.all_eq_true] at h
  exact ⟨by omega, by omega, h.2⟩

/-- Both ways come to one answer; where it is yes, the list is short, its numbers are in bounds and fall. -/
theorem good_both (l : List Int) (hn : l.length ≤ 1048576) : ∃ b : Bool, Ev (fun k => spec_cmGood.f k l) b ∧ Ev (fun k => impl_IsChomp.f k l) b ∧ (b = true → 1 ≤ l.length ∧ l.length ≤ 6 ∧ (∀ x ∈ l, 1 ≤ x ∧ x ≤ 6) ∧ Desc l 1) := by
  obtain ⟨b, hb, s1, s2⟩ := desc_l0 l hn l.length 1 (by omega) (by omega)
  refine ⟨b && sideC l, ?_, s2, fun h => ?_⟩
  · unfold spec_cmGood.f
    simp only [l1In_some, Option.bind_some]
    have ha := l1All_ev 1 6 l hn
    by_cases h : 1 ≤ (l.length : Int) ∧ (l.length : Int) ≤ 6
    · simp only [h, and_self, decide_true, if_true]
      refine Ev.bind ha ?_
      unfold sideC
      rw [decide_eq_true h, Bool.true_and]
      cases l.all fun x => decide (1 ≤ x ∧ x ≤ 6) with
      | true =>
        rw [Bool.and_true]
        exact Ev.step (fun k => by simp only [spec_cmGood.j0, Bool.not_true, Bool.false_eq_true, if_false]; rfl) s1
      | false =>
        rw [Bool.and_false]
        exact Ev.step (fun k => by simp only [spec_cmGood.j0, Bool.not_false, if_true]) (Ev.now _)
    · simp only [h, decide_false, Bool.false_eq_true, if_false]
      have : sideC l = false := by
        unfold sideC
        rw [decide_eq_false h, Bool.false_and]
      rw [this, Bool.and_false]
      exact Ev.step (fun k => by simp only [spec_cmGood.j0, if_true]) (Ev.now _)
  · rw [Bool.and_eq_true] at h
    obtain ⟨h1, h2, h3⟩ := sideC_true h.2
    exact ⟨h1, h2, h3, hb h.1⟩
end Go.Proofs.Ytfppdfphbphhhaa.Pure
