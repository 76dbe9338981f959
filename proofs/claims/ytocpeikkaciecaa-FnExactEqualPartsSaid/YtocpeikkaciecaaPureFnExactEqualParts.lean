/- EqualParts of the program answers as the reference's, for all numbers; what it hands back is memory of its own. -/
import Derived.Test.YtocpeikkaciecaaAPure1
import Derived.Test.YtocpeikkaciecaaABars
import Derived.Test.YtocpeikkaciecaaPx32
namespace Go.Proofs.Ytocpeikkaciecaa.Pure
open Go.RowKit Go.Proofs.Ytocpeikkaciecaa.P Go.Proofs.YtocpeikkaciecaaW.PrintWords Go.Proofs.YtocpeikkaciecaaW.PrintLast

theorem equalParts_same (k : Nat) : (∀ m l x W H, impl_EqualParts.l0 k m l x W H = spec_EqualParts.l0 k m l x W H) ∧ (∀ m l x y W H, impl_EqualParts.l1 k m l x y W H = spec_EqualParts.l1 k m l x y W H) := by
  induction k with
  | zero => exact ⟨fun _ _ _ _ _ => rfl, fun _ _ _ _ _ _ => rfl⟩
  | succ k ih =>
    refine ⟨fun m l x W H => ?_, fun m l x y W H => ?_⟩
    · simp only [impl_EqualParts.l0, spec_EqualParts.l0, ih.2]
    · simp only [impl_EqualParts.l1, spec_EqualParts.l1, ih.1, ih.2]

/-- The inner loop ends, if what follows does. -/
theorem equalParts_l1 (m W H : Int) (x : Nat) (hx : 1 ≤ x) (hW : (x : Int) ≤ W) (hW2 : W ≤ 12) (hH2 : H ≤ 12)
    (next : ∀ l : List S26, l.length ≤ 12 * x → ∃ r, r.1.length ≤ 144 ∧ Ev (fun k => spec_EqualParts.l0 k m l ((x + 1 : Nat) : Int) W H) r) :
    ∀ (d y : Nat) (l : List S26), 1 ≤ y → (y : Int) + d = H + 1 → l.length + 1 ≤ 12 * (x - 1) + y → ∃ r, r.1.length ≤ 144 ∧ Ev (fun k => spec_EqualParts.l1 k m l (x : Int) (y : Int) W H) r := by
  intro d
  induction d with
  | zero =>
    intro y l hy hd hl
    obtain ⟨r, hr, K, hK⟩ := next l (by omega)
    refine ⟨r, hr, K + 1, fun k hk => ?_⟩
    obtain ⟨n, rfl⟩ : ∃ n, k = n + 1 := ⟨k - 1, by omega⟩
    simp only [spec_EqualParts.l1]
    rw [if_neg (by omega), w64 (by omega) (by omega)]
    exact hK n (by omega)
  | succ d ih =>
    intro y l hy hd hl
    have w1 : wrap64 ((y : Int) + 1) = ((y + 1 : Nat) : Int) := by rw [w64 (by omega) (by omega)]; rfl
    have skip : ∃ r, r.1.length ≤ 144 ∧ Ev (fun k => spec_EqualParts.l1 k m l (x : Int) (wrap64 ((y : Int) + 1)) W H) r := by
      rw [w1]
      exact ih (y + 1) l (by omega) (by omega) (by omega)
    have keep : ∃ r, r.1.length ≤ 144 ∧ Ev (fun k => spec_EqualParts.l1 k m (l ++ [⟨(x : Int), (y : Int)⟩]) (x : Int) (wrap64 ((y : Int) + 1)) W H) r := by
      rw [w1]
      exact ih (y + 1) _ (by omega) (by omega) (by rw [List.length_append, List.length_singleton]; omega)
    obtain ⟨r1, hr1, s1⟩ := skip
    obtain ⟨r2, hr2, s2⟩ := keep
    have e : ∀ k, spec_EqualParts.l1 (k + 1) m l (x : Int) (y : Int) W H = if (Int.tmod W x) = 0 ∧ (Int.tmod H y) = 0 ∧ (wrap64 ((wrap64 (Int.tdiv W x)) * (wrap64 (Int.tdiv H y)))) = m then spec_EqualParts.l1 k m (l ++ [⟨(x : Int), (y : Int)⟩]) (x : Int) (wrap64 ((y : Int) + 1)) W H else spec_EqualParts.l1 k m l (x : Int) (wrap64 ((y : Int) + 1)) W H := by
      intro k
      simp only [spec_EqualParts.l1]
      rw [if_pos (by omega), if_neg (by omega)]
      by_cases h1 : Int.tmod W x = 0
      · rw [if_pos h1, if_neg (by omega)]
        by_cases h2 : Int.tmod H y = 0
        · rw [if_pos h2]
          by_cases h3 : (wrap64 ((wrap64 (Int.tdiv W x)) * (wrap64 (Int.tdiv H y)))) = m
          · rw [if_pos h3, if_pos (by omega), if_pos ⟨h1, h2, h3⟩]
          · rw [if_neg h3, if_neg (fun h => h3 h.2.2)]
        · rw [if_neg h2, if_neg (fun h => h2 h.2.1)]
      · rw [if_neg h1, if_neg (fun h => h1 h.1)]
    by_cases c : (Int.tmod W x) = 0 ∧ (Int.tmod H y) = 0 ∧ (wrap64 ((wrap64 (Int.tdiv W x)) * (wrap64 (Int.tdiv H y)))) = m
    · exact ⟨r2, hr2, Ev.step (fun k => by rw [e k, if_pos c]) s2⟩
    · exact ⟨r1, hr1, Ev.step (fun k => by rw [e k, if_neg c]) s1⟩

theorem equalParts_l0 (m W H : Int) (hW2 : W ≤ 12) (hH1 : 1 ≤ H) (hH2 : H ≤ 12) :
    ∀ (d x : Nat) (l : List S26), 1 ≤ x → (x : Int) + d = W + 1 → l.length ≤ 12 * (x - 1) → ∃ r, r.1.length ≤ 144 ∧ Ev (fun k => spec_EqualParts.l0 k m l (x : Int) W H) r := by
  intro d
  induction d with
  | zero =>
    intro x l hx hd hl
    refine ⟨(l, true), by simp only; omega, 1, fun k hk => ?_⟩
    obtain ⟨n, rfl⟩ : ∃ n, k = n + 1 := ⟨k - 1, by omega⟩
    simp only [spec_EqualParts.l0]
    rw [if_neg (by omega)]
  | succ d ih =>
    intro x l hx hd hl
    obtain ⟨r, hr, s⟩ := equalParts_l1 m W H x hx (by omega) hW2 hH2 (fun l' hl' => ih (x + 1) l' (by omega) (by omega) (by omega)) H.toNat 1 l (by omega) (by omega) (by omega)
    exact ⟨r, hr, Ev.step (fun k => by simp only [spec_EqualParts.l0]; rw [if_pos (by omega)]; rfl) s⟩

theorem equalParts_spec (W H m : Int) : ∃ r : List S26 × Bool, r.1.length ≤ 144 ∧ Ev (fun k => spec_EqualParts.f k W H m) r := by
  unfold spec_EqualParts.f
  simp only [brGood_some, l1In_some, Option.bind_some]
  cases hg : goodB W H with
  | false =>
    simp only [Bool.false_eq_true, if_false]
    exact ⟨([], false), by simp, Ev.step (fun k => by simp only [spec_EqualParts.j0, if_true]) (Ev.now _)⟩
  | true =>
    simp only [if_true]
    by_cases hm : 1 ≤ m ∧ m ≤ 144
    · obtain ⟨h1, h2, h3, h4⟩ := goodB_true hg
      obtain ⟨r, hr, s⟩ := equalParts_l0 m W H h2 h3 h4 W.toNat 1 [] (by omega) (by omega) (by simp)
      refine ⟨r, hr, ?_⟩
      simp only [hm, and_self, decide_true, Bool.not_true]
      exact Ev.step (fun k => by simp only [spec_EqualParts.j0, Bool.false_eq_true, if_false]; rfl) s
    · refine ⟨([], false), by simp, ?_⟩
      simp only [hm, decide_false, Bool.not_false]
      exact Ev.step (fun k => by simp only [spec_EqualParts.j0, if_true]) (Ev.now _)

theorem equalParts_impl (k : Nat) (W H m : Int) : impl_EqualParts.f k W H m = spec_EqualParts.f k W H m := by
  unfold spec_EqualParts.f impl_EqualParts.f
  simp only [brGood_some, isBar_some, l1In_some, within_some, Option.bind_some]
  cases k with
  | zero => rfl
  | succ k => simp only [impl_EqualParts.j0, spec_EqualParts.j0, (equalParts_same k).1]

theorem FnExactEqualParts (a0_0 : Int) (a0_1 : Int) (_ : (Lit.int .i64 a0_0).wf = true) (_ : (Lit.int .i64 a0_1).wf = true) (a1 : Int) (_ : (Lit.int .i64 a1).wf = true) : ∃ k, laws_FnExactEqualParts.f k a0_0 a0_1 a1 = some true := by
  obtain ⟨r, hr, hs⟩ := equalParts_spec a0_0 a0_1 a1
  have hi : Ev (fun k => impl_EqualParts.f k a0_0 a0_1 a1) r := by simpa only [equalParts_impl] using hs
  obtain ⟨c, l', hc, hm, hh⟩ := bars_held r.1 (by omega)
  have he := eqBarS_refl r.1 (by omega)
  refine Ev.rounds (r := true) ?_
  unfold laws_FnExactEqualParts.f
  simp only [toBar_some, Option.bind_some]
  refine Ev.bind hs (Ev.bind hi (Ev.bind he ?_))
  simp only [if_true, bne_self_eq_false]
  refine Ev.step (fun k => by simp only [laws_FnExactEqualParts.j0, Bool.false_eq_true, if_false, toBar_some, Option.bind_some]; rfl) ?_
  refine Ev.bind hm (Ev.bind hh ?_)
  simp only [if_neg (show ¬ c < 0 by omega), if_true]
  refine Ev.bind hi (Ev.bind he ?_)
  simp only [if_true, bne_self_eq_false]
  refine Ev.step (fun k => by simp only [laws_FnExactEqualParts.j1, Bool.false_eq_true, if_false]; rfl) ?_
  refine Ev.bind hh ?_
  simp only [if_neg (show ¬ c < 0 by omega), if_true]
  exact Ev.now _
end Go.Proofs.Ytocpeikkaciecaa.Pure
