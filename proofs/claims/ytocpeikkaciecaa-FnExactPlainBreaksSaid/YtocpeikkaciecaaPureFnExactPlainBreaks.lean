/- PlainBreaks of the program answers as the reference's, for all numbers; what it hands back is memory of its own. -/
import Derived.Test.YtocpeikkaciecaaAPure1
import Derived.Test.YtocpeikkaciecaaABreaksHeld
import Derived.Test.YtocpeikkaciecaaPx39
namespace Go.Proofs.Ytocpeikkaciecaa.Pure
open Go.RowKit Go.Proofs.Ytocpeikkaciecaa.P Go.Proofs.YtocpeikkaciecaaW.PrintWords Go.Proofs.YtocpeikkaciecaaW.PrintLast

def goodP (p : S26) : Prop := 1 ≤ p.f0 ∧ p.f0 ≤ 12 ∧ 1 ≤ p.f1 ∧ p.f1 ≤ 12
def area (l : List S26) : Int := (l.map fun p => p.f0 * p.f1).sum
theorem area_nil : area [] = 0 := rfl
theorem area_cons (p : S26) (l : List S26) : area (p :: l) = p.f0 * p.f1 + area l := rfl
theorem area_append (l : List S26) (p : S26) : area (l ++ [p]) = area l + p.f0 * p.f1 := by
  unfold area
  simp
theorem area_set (l : List S26) : ∀ (i : Nat) (q p : S26), l[i]? = some q → area (l.set i p) = area l - q.f0 * q.f1 + p.f0 * p.f1 := by
  induction l with
  | nil => intro i q p h; simp at h
  | cons x l ih =>
    intro i q p h
    cases i with
    | zero =>
      simp only [List.getElem?_cons_zero, Option.some.injEq] at h
      subst h
      rw [List.set_cons_zero, area_cons, area_cons]
      omega
    | succ i =>
      simp only [List.getElem?_cons_succ] at h
      rw [List.set_cons_succ, area_cons, area_cons, ih i q p h]
      omega
theorem one_le_area (p : S26) (h : goodP p) : 1 ≤ p.f0 * p.f1 := by
  have := Int.mul_le_mul (a := 1) (b := 1) h.1 h.2.2.1 (by omega) (by have := h.1; omega)
  omega
theorem area_le (p : S26) (h : goodP p) : p.f0 * p.f1 ≤ 144 := by
  have := Int.mul_le_mul (b := p.f1) (d := 12) h.2.1 h.2.2.2 (by have := h.2.2.1; omega) (by omega)
  omega
theorem length_le_area (l : List S26) (h : ∀ p ∈ l, goodP p) : (l.length : Int) ≤ area l := by
  induction l with
  | nil => simp [area_nil]
  | cons x l ih =>
    rw [area_cons, List.length_cons]
    have := one_le_area x (h x List.mem_cons_self)
    have := ih (fun p hp => h p (List.mem_cons_of_mem _ hp))
    omega
theorem good_set_append (l : List S26) (i : Nat) (p q : S26) (h : ∀ p ∈ l, goodP p) (hp : goodP p) (hq : goodP q) : ∀ x ∈ l.set i p ++ [q], goodP x := by
  intro x hx
  rcases List.mem_append.1 hx with hx | hx
  · rcases List.mem_or_eq_of_mem_set hx with hx | rfl
    · exact h x hx
    · exact hp
  · rw [List.mem_singleton.1 hx]
    exact hq

theorem rdP_get (l : List S26) (i : Nat) (v : S26) (h : l[i]? = some v) : rd_T26 l (i : Int) = v := by
  unfold rd_T26
  simp [h]

/-- Both loops, from a state on: they end, and say the same. -/
theorem plain_l0 (A : Nat) (hA : A ≤ 144) : ∀ (d i : Nat) (o : List S57) (l : List S26), (∀ p ∈ l, goodP p) → area l = A → i ≤ l.length → l.length + i + d = 2 * A → o.length + 1 = l.length →
    ∃ r, r.1.length ≤ 144 ∧ Ev (fun k => spec_PlainBreaks.l0 k o l (i : Int)) r ∧ Ev (fun k => impl_PlainBreaks.l0 k o l (i : Int)) r := by
  intro d
  induction d with
  | zero =>
    intro i o l hg ha hi hd ho
    have hle := length_le_area l hg
    refine ⟨(o, true), by simp only; omega, Ev.step (f := fun _ => some (o, true)) (fun k => by simp only [spec_PlainBreaks.l0]; rw [if_neg (by omega)]) (Ev.now _), Ev.step (f := fun _ => some (o, true)) (fun k => by simp only [impl_PlainBreaks.l0]; rw [if_neg (by omega)]) (Ev.now _)⟩
  | succ d ih =>
    intro i o l hg ha hi hd ho
    have hle := length_le_area l hg
    rcases Nat.lt_or_ge i l.length with hlt | hge
    · obtain ⟨p, hp⟩ : ∃ p, l[i]? = some p := ⟨l[i], List.getElem?_eq_getElem hlt⟩
      have hgp := hg p (List.mem_of_getElem? hp)
      have hrd : rd_T26 l (i : Int) = p := rdP_get _ _ _ hp
      have h1 := one_le_area p hgp
      have h2 := area_le p hgp
      by_cases hone : p.f0 * p.f1 = 1
      · obtain ⟨r, hr, s1, s2⟩ := ih (i + 1) o l hg ha (by omega) (by omega) ho
        refine ⟨r, hr, Ev.step (fun k => ?_) s1, Ev.step (fun k => ?_) s2⟩
        · simp only [spec_PlainBreaks.l0, hrd]
          rw [if_pos (by omega), if_pos (by omega), w64 (x := p.f0 * p.f1) (by omega) (by omega), if_pos hone, w64 (by omega) (by omega)]
          rfl
        · simp only [impl_PlainBreaks.l0, impl_Bar_squares.f, hrd, Option.bind_some]
          rw [if_pos (by omega), if_pos (by omega), w64 (x := p.f0 * p.f1) (by omega) (by omega), if_pos hone, w64 (by omega) (by omega)]
          rfl
      · by_cases hw : p.f0 > 1
        · have hga : goodP ⟨1, p.f1⟩ := ⟨by simp only; omega, by simp only; omega, hgp.2.2.1, hgp.2.2.2⟩
          have hgb : goodP ⟨p.f0 - 1, p.f1⟩ := ⟨by simp only; omega, by simp only; have := hgp.2.1; omega, hgp.2.2.1, hgp.2.2.2⟩
          have hn := good_set_append l i _ _ hg hga hgb
          have har : area (l.set i ⟨1, p.f1⟩ ++ [⟨p.f0 - 1, p.f1⟩]) = A := by
            rw [area_append, area_set l i p _ hp, ha]
            simp only [Int.sub_mul]
            omega
          have hlen : (l.set i (⟨1, p.f1⟩ : S26) ++ [(⟨p.f0 - 1, p.f1⟩ : S26)]).length = l.length + 1 := by simp
          have hle2 := length_le_area _ hn
          obtain ⟨r, hr, s1, s2⟩ := ih i (o ++ [⟨(i : Int), true, 1⟩]) _ hn har (by omega) (by omega) (by rw [List.length_append, List.length_singleton]; omega)
          refine ⟨r, hr, Ev.step (fun k => ?_) s1, Ev.step (fun k => ?_) s2⟩
          · simp only [spec_PlainBreaks.l0, hrd, spec_brParts.f]
            rw [if_pos (by omega), if_pos (by omega), w64 (x := p.f0 * p.f1) (by omega) (by omega), if_neg hone]
            simp only [decide_eq_true hw, if_true, Option.bind_some, Int.toNat_natCast, List.length_set]
            rw [if_pos (by omega), if_pos (by omega), w64 (x := p.f0 - 1) (by omega) (by have := hgp.2.1; omega)]
          · simp only [impl_PlainBreaks.l0, impl_Bar_squares.f, hrd, impl_Bar_broken.f, within_some, Option.bind_some]
            rw [if_pos (by omega), if_pos (by omega), w64 (x := p.f0 * p.f1) (by omega) (by omega), if_neg hone]
            simp only [decide_eq_true hw, if_true, Option.bind_some, Int.toNat_natCast, List.length_set]
            rw [if_pos (by omega), if_pos (by omega), w64 (x := p.f0 - 1) (by omega) (by have := hgp.2.1; omega)]
        · have h0 : p.f0 = 1 := by have := hgp.1; omega
          have hh : p.f1 > 1 := by
            rw [h0] at hone
            have := hgp.2.2.1
            omega
          have hga : goodP ⟨p.f0, 1⟩ := ⟨hgp.1, hgp.2.1, by simp only; omega, by simp only; omega⟩
          have hgb : goodP ⟨p.f0, p.f1 - 1⟩ := ⟨hgp.1, hgp.2.1, by simp only; omega, by simp only; have := hgp.2.2.2; omega⟩
          have hn := good_set_append l i _ _ hg hga hgb
          have har : area (l.set i ⟨p.f0, 1⟩ ++ [⟨p.f0, p.f1 - 1⟩]) = A := by
            rw [area_append, area_set l i p _ hp, ha]
            simp only [Int.mul_sub]
            omega
          have hlen : (l.set i (⟨p.f0, 1⟩ : S26) ++ [(⟨p.f0, p.f1 - 1⟩ : S26)]).length = l.length + 1 := by simp
          have hle2 := length_le_area _ hn
          obtain ⟨r, hr, s1, s2⟩ := ih i (o ++ [⟨(i : Int), false, 1⟩]) _ hn har (by omega) (by omega) (by rw [List.length_append, List.length_singleton]; omega)
          refine ⟨r, hr, Ev.step (fun k => ?_) s1, Ev.step (fun k => ?_) s2⟩
          · simp only [spec_PlainBreaks.l0, hrd, spec_brParts.f]
            rw [if_pos (by omega), if_pos (by omega), w64 (x := p.f0 * p.f1) (by omega) (by omega), if_neg hone]
            simp only [decide_eq_false hw, Bool.false_eq_true, if_false, Option.bind_some, Int.toNat_natCast, List.length_set]
            rw [if_pos (by omega), if_pos (by omega), w64 (x := p.f1 - 1) (by omega) (by have := hgp.2.2.2; omega)]
          · simp only [impl_PlainBreaks.l0, impl_Bar_squares.f, hrd, impl_Bar_broken.f, within_some, Option.bind_some]
            rw [if_pos (by omega), if_pos (by omega), w64 (x := p.f0 * p.f1) (by omega) (by omega), if_neg hone]
            simp only [decide_eq_false hw, Bool.false_eq_true, if_false, Option.bind_some, Int.toNat_natCast, List.length_set]
            rw [if_pos (by omega), if_pos (by omega), w64 (x := p.f1 - 1) (by omega) (by have := hgp.2.2.2; omega)]
    · refine ⟨(o, true), by simp only; omega, Ev.step (f := fun _ => some (o, true)) (fun k => by simp only [spec_PlainBreaks.l0]; rw [if_neg (by omega)]) (Ev.now _), Ev.step (f := fun _ => some (o, true)) (fun k => by simp only [impl_PlainBreaks.l0]; rw [if_neg (by omega)]) (Ev.now _)⟩

theorem plain_both (W H : Int) : ∃ r : List S57 × Bool, r.1.length ≤ 144 ∧ Ev (fun k => spec_PlainBreaks.f k W H) r ∧ Ev (fun k => impl_PlainBreaks.f k W H) r := by
  unfold spec_PlainBreaks.f impl_PlainBreaks.f
  simp only [brGood_some, isBar_some, Option.bind_some]
  cases hg : goodB W H with
  | false =>
    simp only [Bool.false_eq_true, if_false]
    exact ⟨([], false), by simp, Ev.now _, Ev.now _⟩
  | true =>
    simp only [if_true]
    obtain ⟨h1, h2, h3, h4⟩ := goodB_true hg
    have hp : goodP ⟨W, H⟩ := ⟨h1, h2, h3, h4⟩
    have a1 := one_le_area _ hp
    have a2 := area_le _ hp
    simp only at a1 a2
    exact plain_l0 (W * H).toNat (by omega) (2 * (W * H).toNat - 1) 0 [] [⟨W, H⟩] (fun p hq => by rw [List.mem_singleton.1 hq]; exact hp) (by rw [area_cons, area_nil]; simp only; omega) (by simp) (by simp only [List.length_singleton]; omega) (by simp)

theorem FnExactPlainBreaks (a0_0 : Int) (a0_1 : Int) (_ : (Lit.int .i64 a0_0).wf = true) (_ : (Lit.int .i64 a0_1).wf = true) : ∃ k, laws_FnExactPlainBreaks.f k a0_0 a0_1 = some true := by
  obtain ⟨r, hr, hs, hi⟩ := plain_both a0_0 a0_1
  obtain ⟨c, l', hc, hm, hh⟩ := breaks_held r.1 (by omega)
  have he := eqBreakS_refl r.1 (by omega)
  refine Ev.rounds (r := true) ?_
  unfold laws_FnExactPlainBreaks.f
  simp only [toBar_some, Option.bind_some]
  refine Ev.bind hs (Ev.bind hi (Ev.bind he ?_))
  simp only [if_true, bne_self_eq_false]
  refine Ev.step (fun k => by simp only [laws_FnExactPlainBreaks.j0, Bool.false_eq_true, if_false, toBar_some, Option.bind_some]; rfl) ?_
  refine Ev.bind hm (Ev.bind hh ?_)
  simp only [if_neg (show ¬ c < 0 by omega), if_true]
  refine Ev.bind hi (Ev.bind he ?_)
  simp only [if_true, bne_self_eq_false]
  refine Ev.step (fun k => by simp only [laws_FnExactPlainBreaks.j1, Bool.false_eq_true, if_false]; rfl) ?_
  refine Ev.bind hh ?_
  simp only [if_neg (show ¬ c < 0 by omega), if_true]
  exact Ev.now _
end Go.Proofs.Ytocpeikkaciecaa.Pure
