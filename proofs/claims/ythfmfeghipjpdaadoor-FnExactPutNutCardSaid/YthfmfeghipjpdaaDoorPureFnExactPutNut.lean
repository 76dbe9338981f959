/- PutNut of the program answers as the reference's, for all lists of texts and all places; its argument is not held, and what it hands back is memory of its own. -/
import Derived.Test.YthfmfeghipjpdaaDoorDSum
import Derived.Test.YthfmfeghipjpdaaDoorUHeldS
import Derived.Test.YthfmfeghipjpdaaDoorPx33
namespace Go.Proofs.YthfmfeghipjpdaaDoor.Pure
open Go.RowKit Go.Proofs.YthfmfeghipjpdaaDoor.P Go.Proofs.YthfmfeghipjpdaaDoorW.PrintWords Go.Proofs.YthfmfeghipjpdaaDoorW.PrintLast
theorem put_no (x0 : List ByteArray) (x1 x2 : Int) : Ev (fun k => spec_PutNut.j0 k x0 x1 x2 true) (([] : List ByteArray), false) :=
  Ev.step (f := fun _ => some (([] : List ByteArray), false)) (fun k => by simp only [spec_PutNut.j0, if_true]) (Ev.now _)
theorem put_both (l : List ByteArray) (hl : l.length ≤ 1048576) (hz : sizes l ≤ 1048576) (a1 a2 : Int) : ∃ r : List ByteArray × Bool, r.1.length ≤ 8 ∧ Ev (fun k => spec_PutNut.f k l a1 a2) r ∧ impl_PutNut.f l a1 a2 = some r := by
  obtain ⟨b, hg, hi, hb⟩ := good_both l hl hz
  cases b with
  | false =>
    refine ⟨([], false), by simp, ?_, ?_⟩
    · unfold spec_PutNut.f
      exact Ev.bind hg (ev_if_neg (by decide) (put_no _ _ _))
    · unfold impl_PutNut.f
      rw [hi]
      rfl
  | true =>
    obtain ⟨w, h⟩ := hb rfl
    have hp := h.rows1
    have hl8 := h.rows8
    have w1 := h.wide1
    have w8 := h.wide8
    have h0 : ((rdOf ByteArray.empty l 0).size : Int) = (w : Int) := by
      have := (h.row 0 (by omega)).1
      simp only [Int.natCast_zero] at this
      omega
    have e1 : wrap64 ((w : Int) - 1) = (w : Int) - 1 := w64 (by omega) (by omega)
    have e2 : wrap64 ((l.length : Int) - 1) = (l.length : Int) - 1 := w64 (by omega) (by omega)
    unfold spec_PutNut.f impl_PutNut.f
    rw [hi]
    simp only [Option.bind_some, l1In_some, within_some, h0, e1, e2]
    clear e1 e2
    by_cases hx : 0 ≤ a1 ∧ a1 ≤ (w : Int) - 1
    case neg =>
      refine ⟨([], false), by simp, ?_, ?_⟩
      · refine Ev.bind hg (ev_if_pos rfl (ev_if_pos (by omega) (ev_if_neg ?_ (put_no _ _ _))))
        rw [decide_eq_false hx]
        decide
      · rw [if_pos trivial]
        by_cases hy : 0 ≤ a2 ∧ a2 ≤ (l.length : Int) - 1
        · rw [decide_eq_true hy, if_pos rfl, if_pos (by omega), decide_eq_false hx, if_neg (by decide)]
        · rw [decide_eq_false hy, if_neg (by decide)]
    case pos =>
      by_cases hy : 0 ≤ a2 ∧ a2 ≤ (l.length : Int) - 1
      case neg =>
        refine ⟨([], false), by simp, ?_, ?_⟩
        · refine Ev.bind hg (ev_if_pos rfl (ev_if_pos (by omega) (ev_if_pos (decide_eq_true hx) (ev_if_neg ?_ (put_no _ _ _)))))
          rw [decide_eq_false hy]
          decide
        · rw [if_pos trivial, decide_eq_false hy, if_neg (by decide)]
      case pos =>
        obtain ⟨y, rfl⟩ := Int.eq_ofNat_of_zero_le hy.1
        obtain ⟨x, rfl⟩ := Int.eq_ofNat_of_zero_le hx.1
        have hd := h.row y (by omega)
        obtain ⟨hs, _, hdig⟩ := hd
        have hb' := hdig x (by omega)
        generalize hsd : rdOf ByteArray.empty l (y : Int) = s at hs hdig hb'
        generalize hbd : bt s (x : Int) = b at hb'
        have hsw : (s.size : Int) = (w : Int) := by omega
        have f1 : 0 < (l.length : Int) := by omega
        have f2 : 0 ≤ (y : Int) := by omega
        have f3 : (y : Int) < (l.length : Int) := by omega
        have f4 : 0 ≤ (x : Int) := by omega
        have f5 : (x : Int) < (s.size : Int) := by omega
        have f6 : (x : Int) ≤ (s.size : Int) := by omega
        by_cases h57 : b = 57
        · refine ⟨([], false), by simp, ?_, ?_⟩
          · refine Ev.bind hg (ev_if_pos rfl (ev_if_pos f1 (ev_if_pos (decide_eq_true hx) (ev_if_pos (decide_eq_true hy) (ev_if_pos f2 (ev_if_pos f3 (ev_if_pos f4 (ev_if_pos f5 ?_))))))))
            rw [show (b == 57) = true by rw [h57]; rfl]
            exact put_no _ _ _
          · rw [if_pos trivial, decide_eq_true hy, if_pos rfl, if_pos f1, decide_eq_true hx, if_pos rfl, if_pos f2, if_pos f3, if_pos f4, if_pos f5, if_pos h57]
        · have em : (b + 1) % 256 = b + 1 := by omega
          have f7 : 0 ≤ ((x + 1 : Nat) : Int) := by omega
          have f8 : ((x + 1 : Nat) : Int) ≤ (s.size : Int) := by omega
          have z1 : (strOfNums [b + 1]).size = 1 := strOfNums_one _
          have g1 : (s.extract 0 x).size + (strOfNums [b + 1]).size ≤ 9223372036854775807 := by
            rw [z1, ByteArray.size_extract]
            omega
          have g2 : (s.extract 0 x ++ strOfNums [b + 1]).size + (s.extract (x + 1) s.size).size ≤ 9223372036854775807 := by
            rw [ByteArray.size_append, z1, ByteArray.size_extract, ByteArray.size_extract]
            omega
          have ew : (b - 48) % 256 + 1 = b - 47 := by omega
          have b10 : b - 47 < 10 := by omega
          have own : spec_l1OwnS.f l = some l := by
            unfold spec_l1OwnS.f
            simp only [Option.bind_some, List.nil_append]
            rw [if_pos (by simp; omega)]
          have put : impl_put.f l (x : Int) (y : Int) (b + 1) = some (l.set y (s.extract 0 x ++ strOfNums [b + 1] ++ s.extract (x + 1) s.size)) := by
            unfold impl_put.f
            rw [hsd, if_pos ⟨by omega, f2, f3, f4, f5, by omega, by omega, by omega⟩]
            rfl
          have k0 : 48 + (b - 47) = b + 1 := by omega
          have k1 : -9223372036854775808 ≤ b + 1 := by omega
          have k2 : b + 1 ≤ 9223372036854775807 := by omega
          have k3 : -9223372036854775808 ≤ (x : Int) + 1 := by omega
          have k4 : (x : Int) + 1 ≤ 9223372036854775807 := by omega
          have ex : wrap64 ((x : Int) + 1) = ((x + 1 : Nat) : Int) := by rw [w64 k3 k4]; rfl
          have en : wrap64 (48 + (b - 47)) % 256 = b + 1 := by rw [k0, w64 k1 k2, em]
          have num : Ev (fun k => spec_l1Num.f k ((b - 48) % 256 + 1)) (strOfNums [b + 1]) := by
            rw [ew]
            refine Ev.step (f := fun _ => some (strOfNums [b + 1])) (fun k => ?_) (Ev.now _)
            simp only [spec_l1Num.f]
            rw [if_pos b10, en]
          refine ⟨(l.set y (s.extract 0 x ++ strOfNums [b + 1] ++ s.extract (x + 1) s.size), true), by rw [List.length_set]; exact hl8, ?_, ?_⟩
          · refine Ev.bind hg (ev_if_pos rfl (ev_if_pos f1 (ev_if_pos (decide_eq_true hx) (ev_if_pos (decide_eq_true hy) (ev_if_pos f2 (ev_if_pos f3 (ev_if_pos f4 (ev_if_pos f5 ?_))))))))
            rw [show (b == 57) = false from beq_eq_false_iff_ne.2 h57]
            refine Ev.step (fun k => by simp only [spec_PutNut.j0, Bool.false_eq_true, if_false, own, Option.bind_some, hsd, hbd, ex, Int.toNat_natCast]; rfl) ?_
            exact ev_if_pos f2 (ev_if_pos f3 (ev_if_pos f4 (ev_if_pos f6 (ev_if_pos f5 (Ev.bind num (ev_if_pos g1 (ev_if_pos f7 (ev_if_pos f8 (ev_if_pos g2 (ev_if_pos f3 (Ev.now _)))))))))))
          · rw [if_pos trivial, decide_eq_true hy, if_pos rfl, if_pos f1, decide_eq_true hx, if_pos rfl, if_pos f2, if_pos f3, if_pos f4, if_pos f5, if_neg h57, em, put]
            rfl
theorem FnExactPutNut (l0 : List ByteArray) (hm : l0.length ≤ maxLen) (_ : l0.length * 16 ≤ 140737488351232) (hs : (∀ s ∈ l0, s.size ≤ 140737488351232)) (a1 : Int) (_ : (Lit.int .i64 a1).wf = true) (a2 : Int) (_ : (Lit.int .i64 a2).wf = true) : ∃ k, laws_FnExactPutNut.f k l0 a1 a2 = some true := by
  refine Ev.rounds (r := true) ?_
  unfold laws_FnExactPutNut.f
  obtain ⟨t, ht, hz⟩ := sz_ev l0 hm hs
  refine Ev.bind ht ?_
  by_cases h0 : t < 0
  · simp only [if_pos h0]
    exact Ev.now _
  · simp only [if_neg h0]
    obtain ⟨hl, hz⟩ := hz (by omega)
    have hc := toStringS_ev l0 hl
    obtain ⟨r, hr, hS, hI⟩ := put_both l0 hl hz a1 a2
    have he := eqStringS_refl r.1 (by omega)
    obtain ⟨c, l', hc0, hmk, hh⟩ := strs_held r.1 (by omega)
    obtain ⟨c2, l2, hc2, hmk2⟩ := markStringS_ev l0 (by omega)
    refine Ev.bind hc (Ev.bind hS (Ev.bind hc (ev_val hI (Ev.bind he ?_))))
    simp only [if_true, bne_self_eq_false]
    refine Ev.step (fun k => by simp only [laws_FnExactPutNut.j0, Bool.false_eq_true, if_false]; rfl) ?_
    refine Ev.bind hc (Ev.bind (eqStringS_refl l0 (by omega)) ?_)
    simp only [if_true]
    refine Ev.bind hmk2 ?_
    simp only [if_neg (show ¬ c2 < 0 by omega)]
    refine Ev.bind he ?_
    simp only [if_true, bne_self_eq_false]
    refine Ev.step (fun k => by simp only [laws_FnExactPutNut.j1, Bool.false_eq_true, if_false]; rfl) ?_
    refine Ev.bind hmk (Ev.bind hh ?_)
    simp only [if_neg (show ¬ c < 0 by omega), if_true]
    refine Ev.bind hc (ev_val hI (Ev.bind he ?_))
    simp only [if_true, bne_self_eq_false]
    refine Ev.step (fun k => by simp only [laws_FnExactPutNut.j2, Bool.false_eq_true, if_false]; rfl) ?_
    refine Ev.bind hh ?_
    simp only [if_neg (show ¬ c < 0 by omega), if_true]
    exact Ev.now _
end Go.Proofs.YthfmfeghipjpdaaDoor.Pure
