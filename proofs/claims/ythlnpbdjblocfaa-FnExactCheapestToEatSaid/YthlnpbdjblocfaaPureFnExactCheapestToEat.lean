/- CheapestToEat of the program answers as the reference's, for all bars. -/
import Derived.Test.YthlnpbdjblocfaaEEat
import Derived.Test.YthlnpbdjblocfaaOEatM
import Derived.Test.YthlnpbdjblocfaaPx34
import Derived.Test.YthlnpbdjblocfaaPx37
namespace Go.Proofs.Ythlnpbdjblocfaa.Pure
open Go Go.RowKit Go.Proofs.Ythlnpbdjblocfaa.P Go.Proofs.YthlnpbdjblocfaaW.PrintWords Go.Proofs.YthlnpbdjblocfaaW.PrintLast Go.Proofs.YthlnpbdjblocfaaW.PrintMore
set_option linter.unusedVariables false
/-- The first least among places 1 to m - 1, of those ahead of t. -/
def Inv (E : List Int) (m t : Nat) (b v : Int) : Prop := (t ≤ 1 ∧ b = 0 ∧ v = -1) ∨ (2 ≤ t ∧ ∃ p : Nat, b = (p : Int) ∧ 1 ≤ p ∧ p < t ∧ p < m ∧ v = rd E (p : Int) ∧ ∀ j : Nat, 1 ≤ j → j < t → j < m → v ≤ rd E (j : Int) ∧ (j < p → v < rd E (j : Int)))
theorem inv_step {E : List Int} (hE : NN E) {m t : Nat} {b v : Int} (hm : 2 ≤ m) (h : Inv E m t b v) (h1 : 1 ≤ t) (h2 : t < m) :
    (v < 0 → Inv E m (t + 1) (t : Int) (rd E (t : Int))) ∧ (¬ v < 0 → rd E (t : Int) < v → Inv E m (t + 1) (t : Int) (rd E (t : Int))) ∧ (¬ v < 0 → ¬ rd E (t : Int) < v → Inv E m (t + 1) b v) := by
  rcases h with ⟨ht, rfl, rfl⟩ | ⟨ht, p, rfl, hp1, hp2, hp3, hv, hall⟩
  · obtain rfl : t = 1 := by omega
    refine ⟨fun _ => .inr ⟨by omega, 1, rfl, by omega, by omega, by omega, rfl, fun j hj1 hj2 hj3 => ?_⟩, fun h => absurd (by decide) h, fun h => absurd (by decide) h⟩
    obtain rfl : j = 1 := by omega
    exact ⟨Int.le_refl _, fun h => absurd h (by omega)⟩
  · have h0 := hE.rd p
    refine ⟨fun h => absurd h (by omega), fun _ hlt => .inr ⟨by omega, t, rfl, h1, by omega, h2, rfl, fun j hj1 hj2 hj3 => ?_⟩, fun _ hnlt => .inr ⟨by omega, p, rfl, hp1, by omega, hp3, hv, fun j hj1 hj2 hj3 => ?_⟩⟩
    · by_cases e : j = t
      · subst e; exact ⟨Int.le_refl _, fun h => absurd h (by omega)⟩
      · have := (hall j hj1 (by omega) hj3).1
        exact ⟨by omega, fun _ => by omega⟩
    · by_cases e : j = t
      · subst e; exact ⟨by omega, fun h => absurd h (by omega)⟩
      · exact hall j hj1 (by omega) hj3
theorem inv_last {E : List Int} {m : Nat} {b v : Int} (hm : 2 ≤ m) (h : Inv E m m b v) : Inv E m (m + 1) b v := by
  rcases h with ⟨ht, _⟩ | ⟨ht, p, e, hp1, hp2, hp3, hv, hall⟩
  · omega
  · exact .inr ⟨by omega, p, e, hp1, by omega, hp3, hv, fun j hj1 hj2 hj3 => hall j hj1 (by omega) hj3⟩
theorem cheap_l0 {W H : Nat} (i : OkB (W, H)) (hm : 2 ≤ arB (W, H)) : ∀ (d t : Nat) (b v : Int), t + d = arB (W, H) + 1 → Inv (eat (W, H)) (arB (W, H)) t b v →
    ∃ b' v', Inv (eat (W, H)) (arB (W, H)) (arB (W, H) + 1) b' v' ∧ Ev (fun k => spec_CheapestToEat.l0 k b v (eat (W, H)) (((eat (W, H)).length : Nat) : Int) (t : Int) (W : Int) (H : Int)) (b', v', true) := by
  have hl := eat_len i
  have ha := i.area
  have hw12 := i.2.1
  have hh12 := i.2.2.2
  have E0 := Aside0.mk (show wrap64 ((W : Int) * (H : Int)) = ((arB (W, H) : Nat) : Int) by
    have e : (W : Int) * (H : Int) = ((arB (W, H) : Nat) : Int) := by rw [← Int.natCast_mul]; rfl
    rw [e, w64 (by omega) (by omega)])
  rw [hl]
  intro d
  induction d with
  | zero =>
    intro t b v ht hi
    obtain rfl : t = arB (W, H) + 1 := by omega
    refine ⟨b, v, hi, Ev.step (f := fun _ => some (b, v, true)) (fun k => ?_) (Ev.now _)⟩
    simp only [spec_CheapestToEat.l0]
    rw [if_neg (by omega)]
  | succ d ih =>
    intro t b v ht hi
    have E1 := Aside0.mk (show wrap64 ((t : Int) + 1) = ((t + 1 : Nat) : Int) by rw [w64 (by omega) (by omega)]; rfl)
    have go : ∀ b2 v2, Inv (eat (W, H)) (arB (W, H)) (t + 1) b2 v2 → (Ev (fun k => spec_CheapestToEat.l0 k b2 v2 (eat (W, H)) ((arB (W, H) + 1 : Nat) : Int) (wrap64 ((t : Int) + 1)) (W : Int) (H : Int)) = Ev (fun k => spec_CheapestToEat.l0 k b2 v2 (eat (W, H)) ((arB (W, H) + 1 : Nat) : Int) ((t + 1 : Nat) : Int) (W : Int) (H : Int))) := fun _ _ _ => by rw [E1.out]
    have head : ∀ (b' v' : Int), Ev (fun k => if (t : Int) > 0 then (if (t : Int) < wrap64 ((W : Int) * (H : Int)) then (if v < 0 then (spec_CheapestToEat.l0 k (t : Int) (rd (eat (W, H)) (t : Int)) (eat (W, H)) ((arB (W, H) + 1 : Nat) : Int) (wrap64 ((t : Int) + 1)) (W : Int) (H : Int)) else (if (rd (eat (W, H)) (t : Int)) < v then (spec_CheapestToEat.l0 k (t : Int) (rd (eat (W, H)) (t : Int)) (eat (W, H)) ((arB (W, H) + 1 : Nat) : Int) (wrap64 ((t : Int) + 1)) (W : Int) (H : Int)) else (spec_CheapestToEat.l0 k b v (eat (W, H)) ((arB (W, H) + 1 : Nat) : Int) (wrap64 ((t : Int) + 1)) (W : Int) (H : Int)))) else (spec_CheapestToEat.l0 k b v (eat (W, H)) ((arB (W, H) + 1 : Nat) : Int) (wrap64 ((t : Int) + 1)) (W : Int) (H : Int))) else (spec_CheapestToEat.l0 k b v (eat (W, H)) ((arB (W, H) + 1 : Nat) : Int) (wrap64 ((t : Int) + 1)) (W : Int) (H : Int))) (b', v', true) →
        Ev (fun k => spec_CheapestToEat.l0 k b v (eat (W, H)) ((arB (W, H) + 1 : Nat) : Int) (t : Int) (W : Int) (H : Int)) (b', v', true) := by
      intro b' v' hx
      refine Ev.step (fun k => by simp only [spec_CheapestToEat.l0]; rfl) ?_
      refine ev_if_pos (by omega) ?_
      refine ev_if_pos (by omega) ?_
      refine ev_if_pos (by rw [hl]; omega) ?_
      exact hx
    by_cases h0 : t = 0
    · subst h0
      have hi2 : Inv (eat (W, H)) (arB (W, H)) (0 + 1) b v := by
        rcases hi with ⟨_, e1, e2⟩ | ⟨h2, _⟩
        · exact .inl ⟨by omega, e1, e2⟩
        · omega
      obtain ⟨b', v', hf, hev⟩ := ih (0 + 1) b v (by omega) hi2
      refine ⟨b', v', hf, head b' v' ?_⟩
      rw [E1.out]
      exact ev_if_neg (by omega) hev
    · by_cases hlt : t < arB (W, H)
      · have st := inv_step (eat_nn i) hm hi (by omega) hlt
        by_cases hv : v < 0
        · obtain ⟨b', v', hf, hev⟩ := ih (t + 1) _ _ (by omega) (st.1 hv)
          refine ⟨b', v', hf, head b' v' ?_⟩
          rw [E1.out, E0.out]
          exact ev_if_pos (by omega) (ev_if_pos (by omega) (ev_if_pos hv hev))
        · by_cases hx : rd (eat (W, H)) (t : Int) < v
          · obtain ⟨b', v', hf, hev⟩ := ih (t + 1) _ _ (by omega) (st.2.1 hv hx)
            refine ⟨b', v', hf, head b' v' ?_⟩
            rw [E1.out, E0.out]
            exact ev_if_pos (by omega) (ev_if_pos (by omega) (ev_if_neg hv (ev_if_pos hx hev)))
          · obtain ⟨b', v', hf, hev⟩ := ih (t + 1) _ _ (by omega) (st.2.2 hv hx)
            refine ⟨b', v', hf, head b' v' ?_⟩
            rw [E1.out, E0.out]
            exact ev_if_pos (by omega) (ev_if_pos (by omega) (ev_if_neg hv (ev_if_neg hx hev)))
      · obtain rfl : t = arB (W, H) := by omega
        obtain ⟨b', v', hf, hev⟩ := ih (arB (W, H) + 1) b v (by omega) (inv_last hm hi)
        refine ⟨b', v', hf, head b' v' ?_⟩
        rw [E1.out, E0.out]
        exact ev_if_pos (by omega) (ev_if_neg (by omega) hev)
theorem seg_rd (E : List Int) (m j : Nat) (hj : j < m) (hm : 1 + m ≤ E.length) : rd (seg E 1 m) (j : Int) = rd E ((j + 1 : Nat) : Int) := by
  rw [rd_lt _ j (by rw [seg_len _ _ _ hm]; exact hj), rd_lt _ (j + 1) (by omega)]
  simp only [seg, List.getElem_drop, List.getElem_take]
  congr 1
  omega
/-- The first least is where the program finds it. -/
theorem inv_unique {E : List Int} {m : Nat} (hm : 2 ≤ m) (hl : E.length = m + 1) {b v : Int} (h : Inv E m (m + 1) b v) : ((posL (seg E 1 (m - 1)) (minL (seg E 1 (m - 1))) : Nat) : Int) + 1 = b ∧ minL (seg E 1 (m - 1)) = v := by
  rcases h with ⟨ht, _⟩ | ⟨_, p, rfl, hp1, hp2, hp3, hv, hall⟩
  · omega
  · have hsl : (seg E 1 (m - 1)).length = m - 1 := seg_len _ _ _ (by omega)
    have hmv : minL (seg E 1 (m - 1)) = v := by
      have h1 : minL (seg E 1 (m - 1)) ≤ v := by
        have := minUp_le (seg E 1 (m - 1)) ((seg E 1 (m - 1)).length - 1) (p - 1) (by omega)
        rw [seg_rd E _ _ (by omega) (by omega), show p - 1 + 1 = p by omega, ← hv] at this
        exact this
      have hmem := minUp_mem (seg E 1 (m - 1)) ((seg E 1 (m - 1)).length - 1) (by omega)
      obtain ⟨j, hj, hje⟩ := List.mem_iff_getElem.1 hmem
      have h2 : minL (seg E 1 (m - 1)) = rd E ((j + 1 : Nat) : Int) := by
        rw [← seg_rd E (m - 1) j (by omega) (by omega), rd_lt _ j hj]
        exact hje.symm
      have h3 := (hall (j + 1) (by omega) (by omega) (by omega)).1
      omega
    refine ⟨?_, hmv⟩
    rw [hmv]
    have hpos : posL (seg E 1 (m - 1)) v = p - 1 := by
      unfold posL
      have hlt : p - 1 < (seg E 1 (m - 1)).length := by omega
      rw [List.findIdx_eq hlt]
      refine ⟨?_, fun j hj => ?_⟩
      · rw [decide_eq_true_eq, ← rd_lt _ _ hlt, seg_rd E _ _ (by omega) (by omega), show p - 1 + 1 = p by omega]
        exact hv
      · have hj2 : j < (seg E 1 (m - 1)).length := by omega
        rw [decide_eq_false_iff_not, ← rd_lt _ _ hj2, seg_rd E _ _ (by omega) (by omega)]
        have := (hall (j + 1) (by omega) (by omega) (by omega)).2 (by omega)
        omega
    rw [hpos]
    omega
theorem cheapest_both (a b : Int) : ∃ r, Ev (fun k => spec_CheapestToEat.f k a b) r ∧ impl_CheapestToEat.f a b = some r := by
  cases hg : goodB a b with
  | false =>
    refine ⟨(0, 0, false), ?_, ?_⟩
    · unfold spec_CheapestToEat.f
      refine ev_val (brGood_some a b) ?_
      rw [hg]
      refine ev_if_neg (by decide) ?_
      refine Ev.step (fun k => by simp only [spec_CheapestToEat.j0]; rfl) ?_
      first | exact ev_if_pos rfl (Ev.now _) | exact ev_if_pos trivial (Ev.now _)
    · unfold impl_CheapestToEat.f
      rw [hg]
      rfl
  | true =>
    have hgb := goodB_true hg
    obtain ⟨w, rfl⟩ : ∃ w : Nat, a = (w : Int) := ⟨a.toNat, by omega⟩
    obtain ⟨h, rfl⟩ : ∃ h : Nat, b = (h : Int) := ⟨b.toNat, by omega⟩
    have i : OkB (w, h) := ⟨by show 1 ≤ w; omega, by show w ≤ 12; omega, by show 1 ≤ h; omega, by show h ≤ 12; omega⟩
    have ha := i.area
    have hm : (w : Int) * (h : Int) = ((arB (w, h) : Nat) : Int) := by rw [← Int.natCast_mul]; rfl
    have hw : wrap64 ((w : Int) * (h : Int)) = ((arB (w, h) : Nat) : Int) := by rw [hm, w64 (by omega) (by omega)]
    have hs := brGood_some (w : Int) (h : Int)
    rw [hg] at hs
    by_cases h1 : ((arB (w, h) : Nat) : Int) = 1
    · have e1 : (((arB (w, h) : Nat) : Int) == 1) = true := beq_iff_eq.2 h1
      refine ⟨(0, 0, false), ?_, ?_⟩
      · unfold spec_CheapestToEat.f
        refine ev_val hs (ev_if_pos rfl ?_)
        rw [hw, e1]
        refine Ev.step (fun k => by simp only [spec_CheapestToEat.j0]; rfl) ?_
        first | exact ev_if_pos rfl (Ev.now _) | exact ev_if_pos trivial (Ev.now _)
      · unfold impl_CheapestToEat.f
        rw [hg, if_pos rfl, hm, if_pos h1]
    · have e1 : (((arB (w, h) : Nat) : Int) == 1) = false := beq_eq_false_iff_ne.2 h1
      obtain ⟨T, hT, hev⟩ := brEat_ev (W := w) (H := h) (by omega) (by omega) (by omega) (by omega)
      obtain ⟨hl, hr⟩ := hT.rows w (by omega) (by omega)
      have he := hr h (by omega) (Nat.le_refl _)
      have hlen := hT.len
      obtain ⟨b', v', hinv, hev2⟩ := cheap_l0 i (by omega) (arB (w, h) + 1) 0 0 (-1) (by omega) (.inl ⟨by omega, rfl, rfl⟩)
      obtain ⟨u1, u2⟩ := inv_unique (by omega) (eat_len i) hinv
      refine ⟨(b', v', true), ?_, ?_⟩
      · unfold spec_CheapestToEat.f
        refine ev_val hs (ev_if_pos rfl ?_)
        rw [hw, e1]
        refine Ev.step (fun k => by simp only [spec_CheapestToEat.j0]; rfl) ?_
        refine ev_if_neg (by decide) ?_
        refine Ev.bind hev ?_
        refine ev_if_pos (by omega) ?_
        refine ev_if_pos (by omega) ?_
        refine ev_if_pos (by omega) ?_
        refine ev_if_pos (by omega) ?_
        rw [he]
        exact hev2
      · unfold impl_CheapestToEat.f
        rw [hg, if_pos rfl, hm, if_neg h1, Int.toNat_natCast, Int.toNat_natCast, u1, u2]
theorem FnExactCheapestToEat (a0_0 : Int) (a0_1 : Int) (_ : (Lit.int .i64 a0_0).wf = true) (_ : (Lit.int .i64 a0_1).wf = true) : ∃ k, laws_FnExactCheapestToEat.f k a0_0 a0_1 = some true := by
  refine Ev.rounds (r := true) ?_
  obtain ⟨r, hS, hI⟩ := cheapest_both a0_0 a0_1
  unfold laws_FnExactCheapestToEat.f
  refine ev_val (toBar_some _ _) (Ev.bind hS (ev_val (toBar_some _ _) (ev_val hI (ev_if_pos rfl (ev_if_pos rfl ?_)))))
  rw [bne_self_eq_false]
  exact ev_if_neg (by decide) (Ev.now _)
end Go.Proofs.Ythlnpbdjblocfaa.Pure
