/- The pieces behind a list of breaks: the program's way and the reference's come to the same, or both fail. Condition: a list shorter than any machine's memory. -/
import Derived.Test.YtocpeikkaciecaaAPure1
import Derived.Test.YtocpeikkaciecaaABreaks
import Derived.Test.YtocpeikkaciecaaPx42
import Derived.Test.YtocpeikkaciecaaPx47
import Derived.Test.YtocpeikkaciecaaPx45
import Derived.Test.YtocpeikkaciecaaPx40
namespace Go.Proofs.Ytocpeikkaciecaa.Pure
open Go.RowKit Go.Proofs.Ytocpeikkaciecaa.P Go.Proofs.YtocpeikkaciecaaW.PrintWords Go.Proofs.YtocpeikkaciecaaW.PrintLast

def canB (a b : Int) (d : Bool) (t : Int) : Bool := decide (1 ≤ t ∧ t ≤ wrap64 ((if d = true then a else b) - 1))
def partsB (a b : Int) (d : Bool) (t : Int) : Int × Int × Int × Int := if d = true then (t, b, wrap64 (a - t), b) else (a, t, a, wrap64 (b - t))
theorem brCan_some (a b : Int) (d : Bool) (t : Int) : spec_brCan.f a b d t = some (canB a b d t) := by
  cases d <;> simp [spec_brCan.f, canB, l1In_some]
theorem brParts_some (a b : Int) (d : Bool) (t : Int) : spec_brParts.f a b d t = some (partsB a b d t) := by
  cases d <;> simp [spec_brParts.f, partsB]
theorem broken_some (a b : Int) (d : Bool) (t : Int) : impl_Bar_broken.f a b d t = some ((partsB a b d t).1, (partsB a b d t).2.1, (partsB a b d t).2.2.1, (partsB a b d t).2.2.2, canB a b d t) := by
  cases d <;> simp [impl_Bar_broken.f, partsB, canB, within_some]
theorem long_some (a b : Int) (d : Bool) : spec_brLong.f a b d = some (if d = true then b else a) := by
  cases d <;> simp [spec_brLong.f]
theorem line_some (a b : Int) (d : Bool) : impl_Bar_line.f a b d = some (if d = true then b else a) := by
  cases d <;> simp [impl_Bar_line.f]

abbrev Out := Option (List S26 × Int)
def outS : Out → List S26 × Int × Bool
  | none => ([], 0, false)
  | some (p, g) => (p, g, true)
def outI (ok : Bool) : Out → List S26 × Int × Bool
  | none => ([], 0, false)
  | some (p, g) => (p, g, ok)

theorem after_l0 (L : List S57) (hL : L.length ≤ 1048576) : ∀ (d i : Nat) (p : List S26) (g : Int), i + d = L.length → p.length = i + 1 →
    ∃ o : Out, (∀ q h, o = some (q, h) → q.length = L.length + 1) ∧ Ev (fun k => spec_brAll.l0 k p g L (L.length : Int) (i : Int)) (outS o) ∧
      ∀ (M : List S57) (a b : Int), Ev (fun k => impl_Bar_after.l0 k M p g L (L.length : Int) (i : Int) a b) (outI (goodB a b && decide ((M.length : Int) ≤ 144)) o) := by
  intro d
  induction d with
  | zero =>
    intro i p g hi hp
    refine ⟨some (p, g), fun q h e => by simp only [Option.some.injEq, Prod.mk.injEq] at e; rw [← e.1]; omega, Ev.step (fun k => by simp only [spec_brAll.l0]; rw [if_neg (by omega)]; rfl) (Ev.now _), fun M a b => ?_⟩
    refine Ev.step (f := fun _ => some (p, g, goodB a b && decide ((M.length : Int) ≤ 144))) (fun k => ?_) (Ev.now _)
    simp only [impl_Bar_after.l0]
    rw [if_neg (by omega), isBar_some]
    simp only [Option.bind_some]
    cases goodB a b <;> simp
  | succ d ih =>
    intro i p g hi hp
    obtain ⟨x, hx⟩ : ∃ x, L[i]? = some x := ⟨L[i]'(by omega), List.getElem?_eq_getElem (by omega)⟩
    have hrd : rd_T57 L (i : Int) = x := rdK_get _ _ _ hx
    have hw : wrap64 ((p.length : Int) - 1) = (i : Int) := by rw [w64 (by omega) (by omega)]; omega
    have no1 : ∃ o : Out, (∀ q h, o = some (q, h) → q.length = L.length + 1) ∧ Ev (fun _ => some (([] : List S26), (0 : Int), false)) (outS o) ∧ ∀ ok, Ev (fun _ => some (([] : List S26), (0 : Int), false)) (outI ok o) :=
      ⟨none, fun _ _ e => by simp at e, Ev.now _, fun _ => Ev.now _⟩
    by_cases hin : 0 ≤ x.f0 ∧ x.f0 ≤ (i : Int)
    · cases hc : canB (rd_T26 p x.f0).f0 (rd_T26 p x.f0).f1 x.f1 x.f2 with
      | false =>
        obtain ⟨o, h0, h1, h2⟩ := no1
        refine ⟨o, h0, ?_, fun M a b => ?_⟩
        · refine Ev.step (f := fun k => spec_brAll.j2 k p g L (L.length : Int) (i : Int) true x.f0 x.f1 x.f2) (fun k => ?_) (Ev.step (fun k => ?_) h1)
          · simp only [spec_brAll.l0, hrd, l1In_some, hw, Option.bind_some]
            rw [if_pos (by omega), if_pos (by omega), if_pos (by omega), if_pos (by simpa using hin), if_pos (by omega), if_pos (by omega), brCan_some, hc]
            rfl
          · simp only [spec_brAll.j2, if_true]
        · refine Ev.step (fun k => ?_) (h2 _)
          simp only [impl_Bar_after.l0, hrd, within_some, hw, Option.bind_some]
          rw [if_pos (by omega), if_pos (by omega), if_pos (by omega), if_pos (by simpa using hin), if_pos (by omega), if_pos (by omega), broken_some, hc]
          simp only [Option.bind_some, Bool.false_eq_true, if_false]
      | true =>
        generalize hq : partsB (rd_T26 p x.f0).f0 (rd_T26 p x.f0).f1 x.f1 x.f2 = q
        generalize hv : (if x.f1 = true then (rd_T26 p x.f0).f1 else (rd_T26 p x.f0).f0) = v
        obtain ⟨o, h0, h1, h2⟩ := ih (i + 1) (p.set x.f0.toNat ⟨q.1, q.2.1⟩ ++ [⟨q.2.2.1, q.2.2.2⟩]) (wrap64 (g + v)) (by omega) (by rw [List.length_append, List.length_set, List.length_singleton]; omega)
        refine ⟨o, h0, ?_, fun M a b => ?_⟩
        · refine Ev.step (f := fun k => spec_brAll.j2 k p g L (L.length : Int) (i : Int) false x.f0 x.f1 x.f2) (fun k => ?_) (Ev.step (fun k => ?_) h1)
          · simp only [spec_brAll.l0, hrd, l1In_some, hw, Option.bind_some]
            rw [if_pos (by omega), if_pos (by omega), if_pos (by omega), if_pos (by simpa using hin), if_pos (by omega), if_pos (by omega), brCan_some, hc]
            rfl
          · simp only [spec_brAll.j2, Bool.false_eq_true, if_false]
            rw [if_pos (by omega), if_pos (by omega), long_some, brParts_some, hq, hv]
            simp only [Option.bind_some, List.length_set]
            rw [if_pos (by omega), w64 (x := (i : Int) + 1) (by omega) (by omega)]
            rfl
        · refine Ev.step (fun k => ?_) (h2 M a b)
          simp only [impl_Bar_after.l0, hrd, within_some, hw, Option.bind_some]
          rw [if_pos (by omega), if_pos (by omega), if_pos (by omega), if_pos (by simpa using hin), if_pos (by omega), if_pos (by omega), broken_some, hc, line_some, hq, hv]
          simp only [Option.bind_some, if_true, List.length_set]
          rw [if_pos (by omega), w64 (x := (i : Int) + 1) (by omega) (by omega)]
          rfl
    · obtain ⟨o, h0, h1, h2⟩ := no1
      refine ⟨o, h0, ?_, fun M a b => ?_⟩
      · refine Ev.step (f := fun k => spec_brAll.j2 k p g L (L.length : Int) (i : Int) true x.f0 x.f1 x.f2) (fun k => ?_) (Ev.step (fun k => ?_) h1)
        · simp only [spec_brAll.l0, hrd, l1In_some, hw, Option.bind_some]
          rw [if_pos (by omega), if_pos (by omega), if_pos (by omega), if_neg (by simpa using hin)]
        · simp only [spec_brAll.j2, if_true]
      · refine Ev.step (fun k => ?_) (h2 _)
        simp only [impl_Bar_after.l0, hrd, within_some, hw, Option.bind_some]
        rw [if_pos (by omega), if_pos (by omega), if_pos (by omega), if_neg (by simpa using hin)]

/-- Both ways, from the start on. -/
theorem after_both (L : List S57) (hL : L.length ≤ 1048576) (a b : Int) : ∃ r s : List S26 × Int × Bool,
    Ev (fun k => spec_brAll.f k a b L) r ∧ Ev (fun k => impl_Bar_after.f k a b L) s ∧ (s.2.2 = r.2.2) ∧ (r.2.2 = true → s = r) ∧ (r.2.2 = false → r.1 = [] ∧ r.2.1 = 0) ∧ (r.2.2 = true → r.1.length = L.length + 1) := by
  obtain ⟨o, h0, h1, h2⟩ := after_l0 L hL L.length 0 [⟨a, b⟩] 0 (by omega) rfl
  have hi := h2 L a b
  have hi' : Ev (fun k => impl_Bar_after.f k a b L) (outI (goodB a b && decide ((L.length : Int) ≤ 144)) o) := hi
  by_cases hg : goodB a b = true ∧ (L.length : Int) ≤ 144
  · refine ⟨outS o, outI (goodB a b && decide ((L.length : Int) ≤ 144)) o, ?_, hi', ?_⟩
    · unfold spec_brAll.f
      simp only [brGood_some, hg.1, Option.bind_some, if_true]
      rw [decide_eq_false (by omega)]
      exact Ev.step (fun k => by simp only [spec_brAll.j0, Bool.false_eq_true, if_false]; rfl) h1
    · rw [hg.1, decide_eq_true hg.2]
      cases o with
      | none => simp [outS, outI]
      | some x =>
        obtain ⟨q, h⟩ := x
        simp [outS, outI]
        exact h0 q h rfl
  · refine ⟨([], 0, false), outI (goodB a b && decide ((L.length : Int) ≤ 144)) o, ?_, hi', ?_⟩
    · unfold spec_brAll.f
      simp only [brGood_some, Option.bind_some]
      cases hgb : goodB a b with
      | false =>
        simp only [Bool.false_eq_true, if_false]
        exact Ev.step (fun k => by simp only [spec_brAll.j0, if_true]) (Ev.now _)
      | true =>
        have : ¬ (L.length : Int) ≤ 144 := fun h => hg ⟨hgb, h⟩
        simp only [if_true]
        rw [decide_eq_true (by omega)]
        exact Ev.step (fun k => by simp only [spec_brAll.j0, if_true]) (Ev.now _)
    · have hf : (goodB a b && decide ((L.length : Int) ≤ 144)) = false := by
        cases hgb : goodB a b with
        | false => rfl
        | true => simp; have : ¬ (L.length : Int) ≤ 144 := fun h => hg ⟨hgb, h⟩; omega
      rw [hf]
      cases o with
      | none => simp [outI]
      | some x => simp [outI]

def toK (x : S54) : S57 := ⟨x.f0, x.f1, x.f2⟩
theorem toBreakS_l0 (l : List S54) (hn : l.length ≤ 1048576) : ∀ (d i : Nat) (o : List S57), i + d = l.length → o.length = l.length → (∀ j, j < i → o[j]? = (l.map toK)[j]?) → ∀ k, d < k →
    laws_toBreakS.l0 k l o (i : Int) = some (l.map toK) := by
  intro d
  induction d with
  | zero =>
    intro i o hi ho h k hk
    obtain ⟨m, rfl⟩ : ∃ m, k = m + 1 := ⟨k - 1, by omega⟩
    simp only [laws_toBreakS.l0]
    rw [if_neg (by omega)]
    congr 1
    apply List.ext_getElem?
    intro j
    by_cases hj : j < i
    · exact h j hj
    · rw [List.getElem?_eq_none (by omega), List.getElem?_eq_none (by rw [List.length_map]; omega)]
  | succ d ih =>
    intro i o hi ho h k hk
    obtain ⟨m, rfl⟩ : ∃ m, k = m + 1 := ⟨k - 1, by omega⟩
    obtain ⟨x, hx⟩ : ∃ x, l[i]? = some x := ⟨l[i]'(by omega), List.getElem?_eq_getElem (by omega)⟩
    have hrd : rd_T54 l (i : Int) = x := by
      unfold rd_T54
      simp [hx]
    simp only [laws_toBreakS.l0, laws_toBreak.f, hrd, Option.bind_some, Int.toNat_natCast]
    rw [if_pos (by omega), if_pos (by omega), if_pos (by omega), w64 (by omega) (by omega)]
    refine ih (i + 1) _ (by omega) (by rw [List.length_set]; omega) (fun j hj => ?_) m (by omega)
    by_cases hji : j = i
    · subst hji
      rw [List.getElem?_set_self (by omega), List.getElem?_map, hx]
      rfl
    · rw [List.getElem?_set_ne (by omega)]
      exact h j (by omega)
theorem toBreakS_ev (l : List S54) (hn : l.length ≤ 1048576) : Ev (fun k => laws_toBreakS.f k l) (l.map toK) := by
  refine ⟨l.length + 1, fun k hk => ?_⟩
  show laws_toBreakS.f k l = _
  unfold laws_toBreakS.f
  rw [if_pos (by omega), if_pos (by rw [Int.toNat_natCast]; omega)]
  exact toBreakS_l0 l hn l.length 0 _ (by omega) (by simp) (fun j hj => by omega) k (by omega)
theorem szBreakS_some (l : List S54) (hn : l.length ≤ maxLen) : laws_szBreakS.f l 1048576 = some (if l.length ≤ 1048576 then 1048576 - (l.length : Int) else -1) := by
  unfold laws_szBreakS.f
  unfold maxLen at hn
  rw [w64 (by omega) (by omega)]
  by_cases h : l.length ≤ 1048576
  · rw [if_neg (by omega), if_pos h]
  · rw [if_pos (by omega), if_neg h]
end Go.Proofs.Ytocpeikkaciecaa.Pure
