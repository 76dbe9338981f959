/- The most even break: the program's and the reference's are one, for all lists of texts. -/
import Derived.Test.YtedpdfmaccoinaaDoorEBreak
import Derived.Test.YtedpdfmaccoinaaDoorPx37
namespace Go.Proofs.YtedpdfmaccoinaaDoor.Pure
open Go.RowKit Go.Proofs.YtedpdfmaccoinaaDoor.P Go.Proofs.YtedpdfmaccoinaaDoorW.PrintWords Go.Proofs.YtedpdfmaccoinaaDoorW.PrintLast
def evs (l : List ByteArray) (w : Nat) (b : Bool × Int × Int) (c : Bool × Nat) : Bool × Int × Int := if b.2.2 < 0 ∨ brk l w c.1 c.2 < b.2.2 then (c.1, (c.2 : Int), brk l w c.1 c.2) else b
theorem evs_ge (l : List ByteArray) (w : Nat) (b : Bool × Int × Int) (c : Bool × Nat) : 0 ≤ (evs l w b c).2.2 := by
  have := brk_pos l w c.1 c.2
  unfold evs
  by_cases h : b.2.2 < 0 ∨ brk l w c.1 c.2 < b.2.2
  · rw [if_pos h]; exact this
  · rw [if_neg h]; omega
theorem evs_fold_ge (l : List ByteArray) (w : Nat) : ∀ (cs : List (Bool × Nat)) (b : Bool × Int × Int), 0 ≤ b.2.2 → 0 ≤ (cs.foldl (evs l w) b).2.2
  | [], _, h => h
  | c :: cs, b, _ => evs_fold_ge l w cs (evs l w b c) (evs_ge l w b c)
theorem ev_pick {β : Type} {a v : Int} {f g : Nat → Option β} {r : β} (h1 : a < 0 ∨ v < a → Ev f r) (h2 : ¬ (a < 0 ∨ v < a) → Ev g r) : Ev (fun k => if a < 0 then f k else (if v < a then f k else g k)) r := by
  by_cases c1 : a < 0
  · exact ev_if_pos c1 (h1 (Or.inl c1))
  · refine ev_if_neg c1 ?_
    by_cases c2 : v < a
    · exact ev_if_pos c2 (h1 (Or.inr c2))
    · exact ev_if_neg c2 (h2 (by omega))
section
variable {l : List ByteArray} {w : Nat}
theorem even_l1 (h : Nuts l w) : ∀ (d i : Nat) (b : Bool × Int × Int), 1 ≤ i → i + d = l.length → Ev (fun k => spec_EvenBreak.l1 k l b.1 b.2.1 b.2.2 (i : Int)) (((cutsOf false i d).foldl (evs l w) b).1, ((cutsOf false i d).foldl (evs l w) b).2.1, ((cutsOf false i d).foldl (evs l w) b).2.2, true) := by
  have h8 := h.rows8
  intro d
  induction d with
  | zero =>
    intro i b hi1 hi
    refine Ev.step (f := fun _ => some (b.1, b.2.1, b.2.2, true)) (fun k => ?_) (Ev.now _)
    simp only [spec_EvenBreak.l1]
    rw [if_neg (by omega)]
  | succ d ih =>
    intro i b hi1 hi
    have e3 : wrap64 ((i : Int) + 1) = ((i + 1 : Nat) : Int) := by rw [w64 (by omega) (by omega)]; omega
    have hlt : (i : Int) < (l.length : Int) := by clear e3; omega
    have s := ntBreak_ev h false i hi1 (by rw [if_neg (by decide)]; clear e3; omega)
    refine Ev.step (fun k => by simp only [spec_EvenBreak.l1, e3]; rw [if_pos hlt]) (Ev.bind s (ev_pick (fun c => ?_) (fun c => ?_)))
    · have n := ih (i + 1) (false, (i : Int), brk l w false i) (by omega) (by clear e3; omega)
      rw [show (cutsOf false i (d + 1)).foldl (evs l w) b = (cutsOf false (i + 1) d).foldl (evs l w) (false, (i : Int), brk l w false i) from by
        show (cutsOf false (i + 1) d).foldl (evs l w) (evs l w b (false, i)) = _
        rw [show evs l w b (false, i) = (false, (i : Int), brk l w false i) from if_pos c]]
      exact n
    · have n := ih (i + 1) b (by omega) (by clear e3; omega)
      rw [show (cutsOf false i (d + 1)).foldl (evs l w) b = (cutsOf false (i + 1) d).foldl (evs l w) b from by
        show (cutsOf false (i + 1) d).foldl (evs l w) (evs l w b (false, i)) = _
        rw [show evs l w b (false, i) = b from if_neg c]]
      exact n
theorem even_l0 (h : Nuts l w) (r : Bool × Int × Int × Bool) : ∀ (d i : Nat) (b : Bool × Int × Int), 1 ≤ i → i + d = w →
    Ev (fun k => spec_EvenBreak.l1 k l ((cutsOf true i d).foldl (evs l w) b).1 ((cutsOf true i d).foldl (evs l w) b).2.1 ((cutsOf true i d).foldl (evs l w) b).2.2 1) r →
    Ev (fun k => spec_EvenBreak.l0 k l b.1 b.2.1 b.2.2 (i : Int)) r := by
  have w8 := h.wide8
  have h1 := h.rows1
  have h0 : ((rdOf ByteArray.empty l 0).size : Int) = (w : Int) := by
    have := (h.row 0 (by omega)).1
    simp only [Int.natCast_zero] at this
    omega
  have hp : 0 < (l.length : Int) := by omega
  intro d
  induction d with
  | zero =>
    intro i b hi1 hi next
    refine Ev.step (fun k => ?_) next
    simp only [spec_EvenBreak.l0, h0]
    rw [if_pos hp, if_neg (by omega)]
    rfl
  | succ d ih =>
    intro i b hi1 hi next
    have e3 : wrap64 ((i : Int) + 1) = ((i + 1 : Nat) : Int) := by rw [w64 (by omega) (by omega)]; omega
    have hlt : (i : Int) < (w : Int) := by clear e3; omega
    have s := ntBreak_ev h true i hi1 (by rw [if_pos rfl]; clear e3; omega)
    have next' : Ev (fun k => spec_EvenBreak.l1 k l ((cutsOf true (i + 1) d).foldl (evs l w) (evs l w b (true, i))).1 ((cutsOf true (i + 1) d).foldl (evs l w) (evs l w b (true, i))).2.1 ((cutsOf true (i + 1) d).foldl (evs l w) (evs l w b (true, i))).2.2 1) r := next
    refine Ev.step (fun k => by simp only [spec_EvenBreak.l0, h0, e3]; rw [if_pos hp, if_pos hlt]) (Ev.bind s (ev_pick (fun c => ?_) (fun c => ?_)))
    · rw [show evs l w b (true, i) = (true, (i : Int), brk l w true i) from if_pos c] at next'
      exact ih (i + 1) (true, (i : Int), brk l w true i) (by omega) (by clear e3; omega) next'
    · rw [show evs l w b (true, i) = b from if_neg c] at next'
      exact ih (i + 1) b (by omega) (by clear e3; omega) next'
theorem rd_mkC (cs : List (Bool × Nat)) (i : Nat) (h : i < cs.length) : rd_T58 (cs.map mkC) (i : Int) = mkC cs[i] := by
  unfold rd_T58
  rw [Int.toNat_natCast, List.getD_eq_getElem?_getD, List.getElem?_map, List.getElem?_eq_getElem h]
  rfl
theorem even_impl (h : Nuts l w) (cs : List (Bool × Nat)) (hc : ∀ c ∈ cs, 1 ≤ c.2 ∧ c.2 < (if c.1 then w else l.length)) (hlen : cs.length ≤ 1000) : ∀ (d i : Nat) (b : Bool × Int × Int), i + d = cs.length →
    Ev (fun k => impl_EvenBreak.l0 k l b.2.2 (cs.map mkC) ((cs.map mkC).length : Int) (i : Int) b.1 b.2.1) (if ((cs.drop i).foldl (evs l w) b).2.2 < 0 then (false, 0, 0, false) else (((cs.drop i).foldl (evs l w) b).1, ((cs.drop i).foldl (evs l w) b).2.1, ((cs.drop i).foldl (evs l w) b).2.2, true)) := by
  have hml : (cs.map mkC).length = cs.length := List.length_map _
  intro d
  induction d with
  | zero =>
    intro i b hi
    rw [List.drop_of_length_le (by omega)]
    show Ev _ (if b.2.2 < 0 then (false, 0, 0, false) else (b.1, b.2.1, b.2.2, true))
    refine Ev.step (f := fun _ => some (if b.2.2 < 0 then (false, 0, 0, false) else (b.1, b.2.1, b.2.2, true))) (fun k => ?_) (Ev.now _)
    simp only [impl_EvenBreak.l0]
    rw [if_neg (by omega)]
    by_cases c : b.2.2 < 0
    · rw [if_pos c, if_pos c]
    · rw [if_neg c, if_neg c]
  | succ d ih =>
    intro i b hi
    have hlt : i < cs.length := by omega
    have r0 : (rd_T58 (cs.map mkC) (i : Int)).f0 = cs[i].1 := by rw [rd_mkC cs i hlt]; rfl
    have r1 : (rd_T58 (cs.map mkC) (i : Int)).f1 = (cs[i].2 : Int) := by rw [rd_mkC cs i hlt]; rfl
    obtain ⟨f1, f2⟩ := hc cs[i] (List.getElem_mem hlt)
    have s := apart_ev h cs[i].1 cs[i].2 f1 f2
    have e3 : wrap64 ((i : Int) + 1) = ((i + 1 : Nat) : Int) := by rw [w64 (by omega) (by omega)]; omega
    rw [List.drop_eq_getElem_cons hlt, List.foldl_cons]
    have c1 : (i : Int) < ((cs.map mkC).length : Int) := by rw [hml]; clear e3; omega
    have c0 : 0 ≤ (i : Int) := by clear e3; omega
    refine Ev.step (fun k => by simp only [impl_EvenBreak.l0, r0, r1, e3]; rw [if_pos c1, if_pos c0, if_pos c1]) (Ev.bind s (ev_pick (fun c => ?_) (fun c => ?_)))
    · rw [show evs l w b cs[i] = (cs[i].1, (cs[i].2 : Int), brk l w cs[i].1 cs[i].2) from if_pos c]
      exact ih (i + 1) (cs[i].1, (cs[i].2 : Int), brk l w cs[i].1 cs[i].2) (by clear e3; omega)
    · rw [show evs l w b cs[i] = b from if_neg c]
      exact ih (i + 1) b (by clear e3; omega)
end
theorem evenBreak_both (l : List ByteArray) (hl : l.length ≤ 1048576) (hz : sizes l ≤ 1048576) : ∃ r, Ev (fun k => spec_EvenBreak.f k l) r ∧ Ev (fun k => impl_EvenBreak.f k l) r := by
  obtain ⟨b, hg, hi, hb⟩ := good_both l hl hz
  have jS : Ev (fun k => spec_EvenBreak.j0 k l true) (false, 0, 0, false) := Ev.step (fun k => by simp only [spec_EvenBreak.j0, if_true]) (Ev.now _)
  cases b with
  | false =>
    refine ⟨(false, 0, 0, false), ?_, ?_⟩
    · unfold spec_EvenBreak.f
      exact Ev.bind hg (ev_if_neg (by decide) jS)
    · unfold impl_EvenBreak.f
      exact ev_val hi (ev_if_neg (by decide) (Ev.now _))
  | true =>
    obtain ⟨w, h⟩ := hb rfl
    have h1 := h.rows1
    have h8 := h.rows8
    have w1 := h.wide1
    have w8 := h.wide8
    have h0 : ((rdOf ByteArray.empty l 0).size : Int) = (w : Int) := by
      have := (h.row 0 (by omega)).1
      simp only [Int.natCast_zero] at this
      omega
    have hlen := cuts_len w l.length
    have hcs := cuts_ev w l.length (by omega) (by omega) h1 w1
    have hrun := even_impl h (cuts w l.length) (cuts_mem w l.length) (by omega) (cuts w l.length).length 0 (false, 0, -1) (by omega)
    rw [List.drop_zero] at hrun
    have hI : ∀ r, r = (if ((cuts w l.length).foldl (evs l w) (false, 0, -1)).2.2 < 0 then (false, 0, 0, false) else (((cuts w l.length).foldl (evs l w) (false, 0, -1)).1, ((cuts w l.length).foldl (evs l w) (false, 0, -1)).2.1, ((cuts w l.length).foldl (evs l w) (false, 0, -1)).2.2, true)) → Ev (fun k => impl_EvenBreak.f k l) r := by
      intro r hr
      subst hr
      unfold impl_EvenBreak.f
      refine ev_val hi (ev_if_pos rfl (ev_val (whole_some h) ?_))
      refine Ev.bind hcs ?_
      exact hrun
    have hS : ∀ r, Ev (fun k => if (l.length : Int) = 1 then spec_EvenBreak.j0 k l ((w : Int) == 1) else spec_EvenBreak.j0 k l false) r → Ev (fun k => spec_EvenBreak.f k l) r := by
      intro r hr
      unfold spec_EvenBreak.f
      refine Ev.bind hg (ev_if_pos rfl ?_)
      by_cases c : (l.length : Int) = 1
      · refine ev_if_pos c (ev_if_pos (by omega) ?_)
        simp only [if_pos c] at hr
        rw [h0]
        exact hr
      · simp only [if_neg c] at hr
        exact ev_if_neg c hr
    by_cases c : w = 1 ∧ l.length = 1
    · obtain ⟨c1, c2⟩ := c
      have hnil : cuts w l.length = [] := List.eq_nil_of_length_eq_zero (by omega)
      refine ⟨(false, 0, 0, false), hS _ (ev_if_pos (by omega) ?_), hI _ (by rw [hnil]; rfl)⟩
      rw [c1]
      exact jS
    · have hpos : ¬ ((cuts w l.length).foldl (evs l w) (false, 0, -1)).2.2 < 0 := by
        cases e : cuts w l.length with
        | nil =>
          rw [e, List.length_nil] at hlen
          omega
        | cons c cs =>
          have := evs_fold_ge l w cs (evs l w (false, 0, -1) c) (evs_ge l w _ c)
          rw [List.foldl_cons]
          omega
      refine ⟨_, hS _ ?_, hI _ (if_neg hpos).symm⟩
      have run := even_l1 h (l.length - 1) 1 ((cutsOf true 1 (w - 1)).foldl (evs l w) (false, 0, -1)) (Nat.le_refl _) (by omega)
      have run2 := even_l0 h _ (w - 1) 1 (false, 0, -1) (Nat.le_refl _) (by omega) run
      have run3 : Ev (fun k => spec_EvenBreak.j0 k l false) (((cuts w l.length).foldl (evs l w) (false, 0, -1)).1, ((cuts w l.length).foldl (evs l w) (false, 0, -1)).2.1, ((cuts w l.length).foldl (evs l w) (false, 0, -1)).2.2, true) := by
        unfold cuts
        rw [List.foldl_append]
        exact Ev.step (fun k => by simp only [spec_EvenBreak.j0, Bool.false_eq_true, if_false]; rfl) run2
      by_cases c2 : (l.length : Int) = 1
      · refine ev_if_pos c2 ?_
        rw [show ((w : Int) == 1) = false from by rw [beq_eq_false_iff_ne]; omega]
        exact run3
      · exact ev_if_neg c2 run3
theorem FnExactEvenBreak (l0 : List ByteArray) (hm : l0.length ≤ maxLen) (_ : l0.length * 16 ≤ 140737488351232) (hs : (∀ s ∈ l0, s.size ≤ 140737488351232)) : ∃ k, laws_FnExactEvenBreak.f k l0 = some true := by
  refine Ev.rounds (r := true) ?_
  unfold laws_FnExactEvenBreak.f
  obtain ⟨t, ht, hz⟩ := sz_ev l0 hm hs
  refine Ev.bind ht ?_
  by_cases h0 : t < 0
  · simp only [if_pos h0]
    exact Ev.now _
  · simp only [if_neg h0]
    obtain ⟨hl, hz⟩ := hz (by omega)
    have hc := toStringS_ev l0 hl
    obtain ⟨r, hS, hI⟩ := evenBreak_both l0 hl hz
    refine Ev.bind hc (Ev.bind hS (Ev.bind hc (Ev.bind hI ?_)))
    simp only [if_true, bne_self_eq_false, Bool.false_eq_true, if_false]
    refine Ev.step (fun k => by simp only [laws_FnExactEvenBreak.j0, Bool.false_eq_true, if_false]; rfl) ?_
    refine Ev.bind hc (Ev.bind (eqStringS_refl l0 (by omega)) ?_)
    simp only [if_true]
    exact Ev.now _
end Go.Proofs.YtedpdfmaccoinaaDoor.Pure
