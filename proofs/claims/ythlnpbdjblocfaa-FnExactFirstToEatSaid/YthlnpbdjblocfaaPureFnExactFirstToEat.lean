/- FirstToEat of the program answers as the reference's, for all bars and numbers. -/
import Derived.Test.YthlnpbdjblocfaaEEat
import Derived.Test.YthlnpbdjblocfaaOEatF
import Derived.Test.YthlnpbdjblocfaaPx32
import Derived.Test.YthlnpbdjblocfaaPx33
namespace Go.Proofs.Ythlnpbdjblocfaa.Pure
open Go Go.RowKit Go.Proofs.Ythlnpbdjblocfaa.P Go.Proofs.YthlnpbdjblocfaaW.PrintWords Go.Proofs.YthlnpbdjblocfaaW.PrintLast Go.Proofs.YthlnpbdjblocfaaW.PrintMore
set_option linter.unusedVariables false
theorem mnS_le {f g : List Int} (hf : NN f) (hg : NN g) (t : Nat) : ∀ n i, i < n → i ≤ t ∧ t - i < g.length → mnS f g t n ≤ rd f (i : Int) + rd g ((t - i : Nat) : Int)
  | 0, i, h, _ => absurd h (by omega)
  | n + 1, i, h, hi => by
    have h1 := hf.rd n
    have h2 := hg.rd (t - n)
    rw [mnS]
    by_cases e : i = n
    · subst e
      rw [if_pos hi]
      rcases lessI_cases (mnS f g t i) (rd f (i : Int) + rd g ((t - i : Nat) : Int)) with ⟨_, e⟩ | ⟨_, _, e⟩ | ⟨_, _, e⟩ <;> rw [e] <;> omega
    · have ih := mnS_le hf hg t n i (by omega) hi
      have hp := mnS_pos hf hg t n i (by omega) hi
      by_cases hn : n ≤ t ∧ t - n < g.length
      · rw [if_pos hn]
        rcases lessI_cases (mnS f g t n) (rd f (n : Int) + rd g ((t - n : Nat) : Int)) with ⟨_, e⟩ | ⟨_, _, e⟩ | ⟨_, _, e⟩ <;> rw [e] <;> omega
      · rw [if_neg hn]
        exact ih
theorem mnS_att (f g : List Int) (t : Nat) : ∀ n, mnS f g t n = -1 ∨ ∃ i, i < n ∧ i ≤ t ∧ t - i < g.length ∧ mnS f g t n = rd f (i : Int) + rd g ((t - i : Nat) : Int)
  | 0 => .inl rfl
  | n + 1 => by
    rw [mnS]
    by_cases hn : n ≤ t ∧ t - n < g.length
    · rw [if_pos hn]
      rcases lessI_cases (mnS f g t n) (rd f (n : Int) + rd g ((t - n : Nat) : Int)) with ⟨_, e⟩ | ⟨_, _, e⟩ | ⟨h0, _, e⟩
      · rw [e]; exact .inr ⟨n, by omega, hn.1, hn.2, rfl⟩
      · rw [e]; exact .inr ⟨n, by omega, hn.1, hn.2, rfl⟩
      · rw [e]
        rcases mnS_att f g t n with h | ⟨i, h1, h2, h3, h4⟩
        · exact .inl h
        · exact .inr ⟨i, by omega, h2, h3, h4⟩
    · rw [if_neg hn]
      rcases mnS_att f g t n with h | ⟨i, h1, h2, h3, h4⟩
      · exact .inl h
      · exact .inr ⟨i, by omega, h2, h3, h4⟩
/-- A break meets the least just if its own least does. -/
theorem hit_iff {q : Br} (i : OkB q) {c : Bool × Nat} (hc : c ∈ cuts q.1 q.2) {t : Nat} (h1 : 1 ≤ t) (h2 : t < arB q) : hitB q t (rd (eat q) (t : Int)) c = true ↔ sqB q c + MV q c t = rd (eat q) (t : Int) := by
  have n1 := eat_nn (i.one hc).1
  have n2 := eat_nn (i.two hc).1
  have hmin := (eat_min i h1 h2).1 c hc
  have hp := MV_pos i hc (t := t) (by omega)
  unfold hitB
  rw [List.any_eq_true]
  constructor
  · rintro ⟨k, hk, hh⟩
    have hh := of_decide_eq_true hh
    unfold hitI at hh
    have := mnS_le n1 n2 t _ k (List.mem_range.1 hk) ⟨hh.1, hh.2.1⟩
    have e : MV q c t = mnS (eat (oneB q c)) (eat (twoB q c)) t (eat (oneB q c)).length := rfl
    omega
  · intro he
    rcases mnS_att (eat (oneB q c)) (eat (twoB q c)) t (eat (oneB q c)).length with h | ⟨k, h3, h4, h5, h6⟩
    · have e : MV q c t = mnS (eat (oneB q c)) (eat (twoB q c)) t (eat (oneB q c)).length := rfl
      omega
    · refine ⟨k, List.mem_range.2 h3, decide_eq_true ⟨h4, h5, ?_⟩⟩
      have e : MV q c t = mnS (eat (oneB q c)) (eat (twoB q c)) t (eat (oneB q c)).length := rfl
      omega
def sel (q : Br) (t : Nat) (l : List (Bool × Nat)) : Bool × Int × Bool := match l.find? (hitB q t (rd (eat q) (t : Int))) with
  | some c => (c.1, (c.2 : Int), true)
  | none => (false, 0, false)
theorem sel_pos {q : Br} {t : Nat} {c : Bool × Nat} (l : List (Bool × Nat)) (h : hitB q t (rd (eat q) (t : Int)) c = true) : sel q t (c :: l) = (c.1, (c.2 : Int), true) := by
  unfold sel
  rw [List.find?_cons_of_pos h]
theorem sel_neg {q : Br} {t : Nat} {c : Bool × Nat} (l : List (Bool × Nat)) (h : ¬ hitB q t (rd (eat q) (t : Int)) c = true) : sel q t (c :: l) = sel q t l := by
  unfold sel
  rw [List.find?_cons_of_neg h]
section
variable {W H t : Nat} {T : List (List (List Int))}
theorem first_l1E (i : OkB (W, H)) (hT : Tab W H (W + 1) T) (h1 : 1 ≤ t) (h2 : t < arB (W, H)) : ∀ (d p : Nat), p + d = H → 1 ≤ p → (∃ c ∈ cutsOf false p d, hitB (W, H) t (rd (eat (W, H)) (t : Int)) c = true) →
    Ev (fun k => spec_FirstToEat.l1 k (t : Int) T (rd (eat (W, H)) (t : Int)) (p : Int) (W : Int) (H : Int)) (sel (W, H) t (cutsOf false p d)) := by
  have hw := i.2.1
  have hh := i.2.2.2
  have hw1 : 1 ≤ W := i.1
  simp only at hw hh
  have hlen := hT.len
  obtain ⟨hl, hr⟩ := hT.rows W hw1 (by omega)
  intro d
  induction d with
  | zero =>
    intro p _ _ hex
    obtain ⟨c, hc, _⟩ := hex
    cases hc
  | succ d ih =>
    intro p hp hp1 hex
    have hc := across_in W H p hp1 (by omega)
    have hm := MV_ev i hc (t := t) (by omega)
    have hb := MV_bd i hc t
    have sq := sqB_bd i (false, p)
    have hpr := price_some i (false, p)
    have E1 := Aside0.mk (show wrap64 ((H : Int) - (p : Int)) = ((H - p : Nat) : Int) by rw [w64 (by omega) (by omega)]; omega)
    have E2 := Aside0.mk (show wrap64 ((p : Int) + 1) = ((p + 1 : Nat) : Int) by rw [w64 (by omega) (by omega)]; rfl)
    have E3 := Aside0.mk (show wrap64 (MV (W, H) (false, p) t + sqB (W, H) (false, p)) = sqB (W, H) (false, p) + MV (W, H) (false, p) t by rw [w64 (by omega) (by omega)]; omega)
    have r1 := hr p hp1 (by omega)
    have r2 := hr (H - p) (by omega) (by omega)
    refine Ev.step (fun k => by simp only [spec_FirstToEat.l1]; rfl) ?_
    refine ev_if_pos (by omega) ?_
    refine ev_if_pos (by omega) ?_
    refine ev_if_pos (by omega) ?_
    refine ev_if_pos (by omega) ?_
    rw [E1.out, r1, r2, E2.out]
    refine ev_if_pos (by omega) ?_
    refine ev_if_pos (by omega) ?_
    refine Ev.bind hm ?_
    refine ev_val hpr ?_
    rw [E3.out]
    by_cases he : hitB (W, H) t (rd (eat (W, H)) (t : Int)) (false, p) = true
    · rw [show cutsOf false p (d + 1) = (false, p) :: cutsOf false (p + 1) d from rfl, sel_pos _ he]
      exact ev_if_pos ((hit_iff i hc h1 h2).1 he) (Ev.now _)
    · rw [show cutsOf false p (d + 1) = (false, p) :: cutsOf false (p + 1) d from rfl, sel_neg _ he]
      refine ev_if_neg (fun h => he ((hit_iff i hc h1 h2).2 h)) (ih (p + 1) (by omega) (by omega) ?_)
      obtain ⟨c, hcm, hh⟩ := hex
      rcases List.mem_cons.1 hcm with rfl | hcm
      · exact absurd hh he
      · exact ⟨c, hcm, hh⟩
theorem first_l0E (i : OkB (W, H)) (hT : Tab W H (W + 1) T) (h1 : 1 ≤ t) (h2 : t < arB (W, H)) : ∀ (d p : Nat), p + d = W → 1 ≤ p → (∃ c ∈ cutsOf true p d ++ cutsOf false 1 (H - 1), hitB (W, H) t (rd (eat (W, H)) (t : Int)) c = true) →
    Ev (fun k => spec_FirstToEat.l0 k (t : Int) T (rd (eat (W, H)) (t : Int)) (p : Int) (W : Int) (H : Int)) (sel (W, H) t (cutsOf true p d ++ cutsOf false 1 (H - 1))) := by
  have hw := i.2.1
  have hh := i.2.2.2
  have hw1 : 1 ≤ W := i.1
  have hh1 : 1 ≤ H := i.2.2.1
  simp only at hw hh
  have hlen := hT.len
  intro d
  induction d with
  | zero =>
    intro p hp hp1 hex
    refine Ev.step (fun k => by simp only [spec_FirstToEat.l0]; rfl) ?_
    refine ev_if_neg (by omega) ?_
    exact first_l1E i hT h1 h2 (H - 1) 1 (by omega) (Nat.le_refl _) hex
  | succ d ih =>
    intro p hp hp1 hex
    have hc := down_in W H p hp1 (by omega)
    have hm := MV_ev i hc (t := t) (by omega)
    have hb := MV_bd i hc t
    have sq := sqB_bd i (true, p)
    have hpr := price_some i (true, p)
    have E1 := Aside0.mk (show wrap64 ((W : Int) - (p : Int)) = ((W - p : Nat) : Int) by rw [w64 (by omega) (by omega)]; omega)
    have E2 := Aside0.mk (show wrap64 ((p : Int) + 1) = ((p + 1 : Nat) : Int) by rw [w64 (by omega) (by omega)]; rfl)
    have E3 := Aside0.mk (show wrap64 (MV (W, H) (true, p) t + sqB (W, H) (true, p)) = sqB (W, H) (true, p) + MV (W, H) (true, p) t by rw [w64 (by omega) (by omega)]; omega)
    obtain ⟨hl1, hr1⟩ := hT.rows p hp1 (by omega)
    obtain ⟨hl2, hr2⟩ := hT.rows (W - p) (by omega) (by omega)
    refine Ev.step (fun k => by simp only [spec_FirstToEat.l0]; rfl) ?_
    refine ev_if_pos (by omega) ?_
    refine ev_if_pos (by omega) ?_
    refine ev_if_pos (by omega) ?_
    refine ev_if_pos (by omega) ?_
    refine ev_if_pos (by omega) ?_
    rw [E1.out, hr1 H hh1 (Nat.le_refl _), hr2 H hh1 (Nat.le_refl _), E2.out]
    refine ev_if_pos (by omega) ?_
    refine ev_if_pos (by omega) ?_
    refine ev_if_pos (by omega) ?_
    refine Ev.bind hm ?_
    refine ev_val hpr ?_
    rw [E3.out]
    by_cases he : hitB (W, H) t (rd (eat (W, H)) (t : Int)) (true, p) = true
    · rw [show cutsOf true p (d + 1) = (true, p) :: cutsOf true (p + 1) d from rfl, List.cons_append, sel_pos _ he]
      exact ev_if_pos ((hit_iff i hc h1 h2).1 he) (Ev.now _)
    · rw [show cutsOf true p (d + 1) = (true, p) :: cutsOf true (p + 1) d from rfl, List.cons_append, sel_neg _ he]
      refine ev_if_neg (fun h => he ((hit_iff i hc h1 h2).2 h)) (ih (p + 1) (by omega) (by omega) ?_)
      obtain ⟨c, hcm, hh⟩ := hex
      rw [show cutsOf true p (d + 1) = (true, p) :: cutsOf true (p + 1) d from rfl, List.cons_append] at hcm
      rcases List.mem_cons.1 hcm with rfl | hcm
      · exact absurd hh he
      · exact ⟨c, hcm, hh⟩
end
theorem firstToEat_both (a b t : Int) : ∃ r, Ev (fun k => spec_FirstToEat.f k a b t) r ∧ impl_FirstToEat.f a b t = some r := by
  cases hg : goodB a b with
  | false =>
    refine ⟨(false, 0, false), ?_, ?_⟩
    · unfold spec_FirstToEat.f
      refine ev_val (brSome_some a b t) ?_
      rw [hg, Bool.false_and]
      refine ev_if_neg (by decide) ?_
      refine Ev.step (fun k => by simp only [spec_FirstToEat.j0]; rfl) ?_
      first | exact ev_if_pos rfl (Ev.now _) | exact ev_if_pos trivial (Ev.now _)
    · unfold impl_FirstToEat.f
      rw [hg]
      rfl
  | true =>
    have hgb := goodB_true hg
    obtain ⟨w, rfl⟩ : ∃ w : Nat, a = (w : Int) := ⟨a.toNat, by omega⟩
    obtain ⟨h, rfl⟩ : ∃ h : Nat, b = (h : Int) := ⟨b.toNat, by omega⟩
    have i : OkB (w, h) := ⟨by show 1 ≤ w; omega, by show w ≤ 12; omega, by show 1 ≤ h; omega, by show h ≤ 12; omega⟩
    have ha := i.area
    have hm : (w : Int) * (h : Int) = ((arB (w, h) : Nat) : Int) := by rw [← Int.natCast_mul]; rfl
    have hw := Aside0.mk (show wrap64 ((w : Int) * (h : Int)) = ((arB (w, h) : Nat) : Int) by rw [hm, w64 (by omega) (by omega)])
    have hs := brSome_some (w : Int) (h : Int) t
    rw [hg, Bool.true_and, hw.out] at hs
    by_cases hin : 1 ≤ t ∧ t ≤ ((arB (w, h) : Nat) : Int) - 1
    · rw [decide_eq_true (show 0 ≤ t ∧ t ≤ ((arB (w, h) : Nat) : Int) by omega)] at hs
      obtain ⟨m, rfl⟩ : ∃ m : Nat, t = (m : Int) := ⟨t.toNat, by omega⟩
      have hne : ((m : Int) == ((arB (w, h) : Nat) : Int)) = false := beq_eq_false_iff_ne.2 (by omega)
      obtain ⟨T, hT, hev⟩ := brEat_ev (W := w) (H := h) (by omega) (by omega) (by omega) (by omega)
      obtain ⟨hl, hr⟩ := hT.rows w (by omega) (by omega)
      have he := hr h (by omega) (Nat.le_refl _)
      have hlen := hT.len
      obtain ⟨c, hc, hce⟩ := (eat_min i (t := m) (by omega) (by omega)).2
      have hev2 := first_l0E i hT (t := m) (by omega) (by omega) (w - 1) 1 (by omega) (Nat.le_refl _) ⟨c, hc, (hit_iff i hc (by omega) (by omega)).2 hce.symm⟩
      refine ⟨firstR (w, h) m, ?_, ?_⟩
      · unfold spec_FirstToEat.f
        refine ev_val hs (ev_if_pos rfl ?_)
        refine ev_if_neg (by omega) ?_
        rw [hw.out, hne]
        refine Ev.step (fun k => by simp only [spec_FirstToEat.j0]; rfl) ?_
        refine ev_if_neg (by decide) ?_
        refine Ev.bind hev ?_
        refine ev_if_pos (by omega) ?_
        refine ev_if_pos (by omega) ?_
        refine ev_if_pos (by omega) ?_
        refine ev_if_pos (by omega) ?_
        refine ev_if_pos (by omega) ?_
        rw [he]
        refine ev_if_pos (by rw [eat_len i]; omega) ?_
        exact hev2
      · unfold impl_FirstToEat.f
        rw [hg, if_pos rfl, hm, if_pos hin, Int.toNat_natCast, Int.toNat_natCast, Int.toNat_natCast]
    · refine ⟨(false, 0, false), ?_, ?_⟩
      · unfold spec_FirstToEat.f
        refine ev_val hs ?_
        by_cases h0 : 0 ≤ t ∧ t ≤ ((arB (w, h) : Nat) : Int)
        · rw [decide_eq_true h0]
          refine ev_if_pos rfl ?_
          by_cases hz : t = 0
          · refine ev_if_pos hz ?_
            refine Ev.step (fun k => by simp only [spec_FirstToEat.j0]; rfl) ?_
            first | exact ev_if_pos rfl (Ev.now _) | exact ev_if_pos trivial (Ev.now _)
          · refine ev_if_neg hz ?_
            have heq : (t == ((arB (w, h) : Nat) : Int)) = true := beq_iff_eq.2 (by omega)
            rw [hw.out, heq]
            refine Ev.step (fun k => by simp only [spec_FirstToEat.j0]; rfl) ?_
            first | exact ev_if_pos rfl (Ev.now _) | exact ev_if_pos trivial (Ev.now _)
        · rw [decide_eq_false h0]
          refine ev_if_neg (by decide) ?_
          refine Ev.step (fun k => by simp only [spec_FirstToEat.j0]; rfl) ?_
          first | exact ev_if_pos rfl (Ev.now _) | exact ev_if_pos trivial (Ev.now _)
      · unfold impl_FirstToEat.f
        rw [hg, if_pos rfl, hm, if_neg hin]
theorem FnExactFirstToEat (a0_0 : Int) (a0_1 : Int) (_ : (Lit.int .i64 a0_0).wf = true) (_ : (Lit.int .i64 a0_1).wf = true) (a1 : Int) (_ : (Lit.int .i64 a1).wf = true) : ∃ k, laws_FnExactFirstToEat.f k a0_0 a0_1 a1 = some true := by
  refine Ev.rounds (r := true) ?_
  obtain ⟨r, hS, hI⟩ := firstToEat_both a0_0 a0_1 a1
  unfold laws_FnExactFirstToEat.f
  refine ev_val (toBar_some _ _) (Ev.bind hS (ev_val (toBar_some _ _) (ev_val hI ?_)))
  rw [bne_self_eq_false]
  refine ev_if_neg (by decide) (ev_if_pos rfl ?_)
  rw [bne_self_eq_false]
  exact ev_if_neg (by decide) (Ev.now _)
end Go.Proofs.Ythlnpbdjblocfaa.Pure
