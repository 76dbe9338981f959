/- The greatest part that holds just so many nuts: the program's search and the reference's come to one size, for all lists of texts and numbers. -/
import Derived.Test.YtedpdfmaccoinaaDoorOGreat
import Derived.Test.YtedpdfmaccoinaaDoorPx19
import Derived.Test.YtedpdfmaccoinaaDoorPx24
namespace Go.Proofs.YtedpdfmaccoinaaDoor.Pure
open Go.RowKit Go.Proofs.YtedpdfmaccoinaaDoor.P Go.Proofs.YtedpdfmaccoinaaDoorW.PrintWords Go.Proofs.YtedpdfmaccoinaaDoorW.PrintLast Go.Proofs.YtedpdfmaccoinaaDoorW.PrintMore
set_option linter.unusedVariables false
def Nice (b : Nat × Nat) : Prop := b = (0, 0) ∨ (1 ≤ b.1 ∧ 1 ≤ b.2 ∧ b.1 ≤ 8 ∧ b.2 ≤ 8)
theorem grt_nice (l : List ByteArray) (w : Nat) (a : Int) {b s : Nat × Nat} (hb : Nice b) (hs : 1 ≤ s.1 ∧ 1 ≤ s.2 ∧ s.1 ≤ 8 ∧ s.2 ≤ 8) : Nice (grt l w a b s) := by
  unfold grt
  by_cases c : s.1 * s.2 > b.1 * b.2 ∧ pcnt l w a s > 0
  · rw [if_pos c]; exact .inr hs
  · rw [if_neg c]; exact hb
theorem nice_bd {b : Nat × Nat} (h : Nice b) : b.1 ≤ 8 ∧ b.2 ≤ 8 := by
  rcases h with rfl | h
  · exact ⟨by decide, by decide⟩
  · exact ⟨h.2.2.1, h.2.2.2⟩
theorem mul_w (x y : Nat) (hx : x ≤ 8) (hy : y ≤ 8) : wrap64 ((x : Int) * (y : Int)) = ((x * y : Nat) : Int) := by
  have h : x * y ≤ 8 * 8 := Nat.mul_le_mul hx hy
  have h2 : ((x * y : Nat) : Int) ≤ 64 := by omega
  have h3 : (0 : Int) ≤ ((x * y : Nat) : Int) := Int.natCast_nonneg _
  rw [Int.natCast_mul] at h2 h3
  rw [Int.natCast_mul, w64 (by omega) (by omega)]
section
variable {l : List ByteArray} {w : Nat}
theorem Nuts.widthG (h : Nuts l w) : (rdOf ByteArray.empty l 0).size = w := by
  have h1 := h.rows1
  have := (h.row 0 (by omega)).1
  simpa using this
theorem great_l1 (h : Nuts l w) (a : Int) (W : Nat) (hW1 : 1 ≤ W) (hW : W ≤ w) (r : Int × Int × Bool) : ∀ (d H : Nat) (b : Nat × Nat), 1 ≤ H → H + d = l.length + 1 → Nice b →
    (∀ c, c = (szRow W H d).foldl (grt l w a) b → Nice c → Ev (fun k => spec_GreatestPart.l0 k l a ((W + 1 : Nat) : Int) (c.1 : Int) (c.2 : Int)) r) →
    Ev (fun k => spec_GreatestPart.l1 k l a (W : Int) (H : Int) (b.1 : Int) (b.2 : Int)) r := by
  have h8 := h.rows8
  have w8 := h.wide8
  intro d
  induction d with
  | zero =>
    intro H b h1 hd hb next
    refine Ev.step (fun k => ?_) (next b rfl hb)
    simp only [spec_GreatestPart.l1]
    rw [if_neg (by omega), w64 (by omega) (by omega)]
    rfl
  | succ d ih =>
    intro H b h1 hd hb next
    have hm1 := mul_w W H (by omega) (by omega)
    have hm2 := mul_w b.1 b.2 (nice_bd hb).1 (nice_bd hb).2
    have hlt : (H : Int) ≤ (l.length : Int) := by omega
    have e1 : wrap64 ((H : Int) + 1) = ((H + 1 : Nat) : Int) := by rw [w64 (by omega) (by omega)]; rfl
    have hnext : ∀ c, c = grt l w a b (W, H) → Ev (fun k => spec_GreatestPart.l1 k l a (W : Int) ((H + 1 : Nat) : Int) (c.1 : Int) (c.2 : Int)) r := by
      intro c hc
      refine ih (H + 1) c (by omega) (by omega) (by rw [hc]; exact grt_nice l w a hb ⟨hW1, h1, by show W ≤ 8; omega, by show H ≤ 8; omega⟩) (fun c' hc' hn => next c' ?_ hn)
      rw [hc', hc]
      rfl
    by_cases hgt : W * H > b.1 * b.2
    · have g : ((W * H : Nat) : Int) > ((b.1 * b.2 : Nat) : Int) := by omega
      refine Ev.step (fun k => by simp only [spec_GreatestPart.l1, hm1, hm2, e1]; rw [if_pos hlt, if_pos g]) (Ev.bind (nparts_ev h W H (by omega) hW a) ?_)
      by_cases hp : pcnt l w a (W, H) > 0
      · have n := hnext (W, H) (by unfold grt; rw [if_pos ⟨hgt, hp⟩])
        exact ev_if_pos (by omega) n
      · have n := hnext b (by unfold grt; rw [if_neg (fun x => hp x.2)])
        exact ev_if_neg (by omega) n
    · have g : ¬ ((W * H : Nat) : Int) > ((b.1 * b.2 : Nat) : Int) := by omega
      have n := hnext b (by unfold grt; rw [if_neg (fun x => hgt x.1)])
      exact Ev.step (fun k => by simp only [spec_GreatestPart.l1, hm1, hm2, e1]; rw [if_pos hlt, if_neg g]) n
theorem great_l0 (h : Nuts l w) (a : Int) : ∀ (d W : Nat) (b : Nat × Nat), 1 ≤ W → W + d = w + 1 → Nice b → ∀ c, c = (szAll l.length W d).foldl (grt l w a) b →
    Ev (fun k => spec_GreatestPart.l0 k l a (W : Int) (b.1 : Int) (b.2 : Int)) ((c.1 : Int), (c.2 : Int), decide (0 < c.1 * c.2)) := by
  have h8 := h.rows8
  have w8 := h.wide8
  have hp := h.rows1
  have hpz : 0 < (l.length : Int) := by omega
  have hwd : ((rdOf ByteArray.empty l 0).size : Int) = (w : Int) := by rw [Nuts.widthG h]
  intro d
  induction d with
  | zero =>
    intro W b h1 hd hb c hc
    obtain rfl : c = b := hc
    refine Ev.step (f := fun _ => some ((c.1 : Int), (c.2 : Int), decide (0 < c.1 * c.2))) (fun k => ?_) (Ev.now _)
    simp only [spec_GreatestPart.l0, hwd]
    rw [if_pos hpz, if_neg (by omega)]
    rcases hb with rfl | ⟨b1, b2, b3, b4⟩
    · rfl
    · have : 1 * 1 ≤ c.1 * c.2 := Nat.mul_le_mul b1 b2
      rw [if_neg (by omega), decide_eq_true (by omega)]
  | succ d ih =>
    intro W b h1 hd hb c hc
    refine Ev.step (fun k => ?_) (great_l1 h a W h1 (by omega) _ l.length 1 b (Nat.le_refl _) (by omega) hb (fun c' hc' hn => ih (W + 1) c' (by omega) (by omega) hn c ?_))
    · simp only [spec_GreatestPart.l0, hwd]
      rw [if_pos hpz, if_pos (by omega)]
      rfl
    · rw [hc, hc', show szAll l.length W (d + 1) = szRow W 1 l.length ++ szAll l.length (W + 1) d from rfl, List.foldl_append]
end
theorem greatest_both (l : List ByteArray) (a : Int) (hl : l.length ≤ 1048576) (hz : sizes l ≤ 1048576) : ∃ r, Ev (fun k => spec_GreatestPart.f k l a) r ∧ impl_GreatestPart.f l a = some r := by
  obtain ⟨b, hg, hi, hb⟩ := good_both l hl hz
  cases b with
  | false =>
    refine ⟨(0, 0, false), ?_, ?_⟩
    · unfold spec_GreatestPart.f
      refine Ev.bind hg (ev_if_neg (by decide) ?_)
      refine Ev.step (f := fun _ => some (0, 0, false)) (fun k => ?_) (Ev.now _)
      simp only [spec_GreatestPart.j0, if_true]
    · unfold impl_GreatestPart.f
      rw [if_pos ⟨hl, hz⟩, hi]
      rfl
  | true =>
    obtain ⟨w, h⟩ := hb rfl
    by_cases hn : a < 0
    · refine ⟨(0, 0, false), ?_, ?_⟩
      · unfold spec_GreatestPart.f
        refine Ev.bind hg (ev_if_pos rfl ?_)
        refine Ev.step (f := fun _ => some (0, 0, false)) (fun k => ?_) (Ev.now _)
        simp only [spec_GreatestPart.j0]
        rw [decide_eq_true hn, if_pos rfl]
      · unfold impl_GreatestPart.f
        rw [if_pos ⟨hl, hz⟩, hi, Option.bind_some, if_pos rfl, if_pos hn]
    · refine ⟨(((grBest l a).1 : Int), ((grBest l a).2 : Int), decide (0 < (grBest l a).1 * (grBest l a).2)), ?_, ?_⟩
      rotate_left
      · unfold impl_GreatestPart.f
        rw [if_pos ⟨hl, hz⟩, hi, Option.bind_some, if_pos rfl, if_neg hn]
      · have ev := great_l0 h a w 1 (0, 0) (Nat.le_refl _) (by omega) (.inl rfl) _ rfl
        unfold spec_GreatestPart.f grBest
        rw [Nuts.widthG h]
        refine Ev.bind hg (ev_if_pos rfl ?_)
        refine Ev.step (fun k => ?_) ev
        simp only [spec_GreatestPart.j0]
        rw [decide_eq_false hn, if_neg (by decide)]
        rfl
theorem FnExactGreatestPart (l0 : List ByteArray) (hm : l0.length ≤ maxLen) (_ : l0.length * 16 ≤ 140737488351232) (hs : (∀ s ∈ l0, s.size ≤ 140737488351232)) (a1 : Int) (_ : (Lit.int .i64 a1).wf = true) : ∃ k, laws_FnExactGreatestPart.f k l0 a1 = some true := by
  refine Ev.rounds (r := true) ?_
  unfold laws_FnExactGreatestPart.f
  obtain ⟨t, ht, hz⟩ := sz_ev l0 hm hs
  refine Ev.bind ht ?_
  by_cases h0 : t < 0
  · simp only [if_pos h0]
    exact Ev.now _
  · simp only [if_neg h0]
    obtain ⟨hl, hz⟩ := hz (by omega)
    have hc := toStringS_ev l0 hl
    obtain ⟨r, hS, hI⟩ := greatest_both l0 a1 hl hz
    have heq : laws_eqBar.f r.1 r.2.1 r.1 r.2.1 = some true := by unfold laws_eqBar.f; rw [if_pos rfl, if_pos rfl]
    refine Ev.bind hc (Ev.bind hS (Ev.bind hc (ev_val hI (ev_val heq (ev_if_pos rfl ?_)))))
    rw [bne_self_eq_false]
    refine Ev.step (fun k => by simp only [laws_FnExactGreatestPart.j0, Bool.false_eq_true, if_false]; rfl) ?_
    refine Ev.bind hc (Ev.bind (eqStringS_refl l0 (by omega)) ?_)
    exact ev_if_pos rfl (Ev.now _)
end Go.Proofs.YtedpdfmaccoinaaDoor.Pure
