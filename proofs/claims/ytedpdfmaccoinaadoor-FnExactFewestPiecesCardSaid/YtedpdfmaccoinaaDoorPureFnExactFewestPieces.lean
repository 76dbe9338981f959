/- The least number of pieces: the program's memory and the reference's table come to one number, for all lists of texts and numbers. -/
import Derived.Test.YtedpdfmaccoinaaDoorOFewC
import Derived.Test.YtedpdfmaccoinaaDoorPx59
import Derived.Test.YtedpdfmaccoinaaDoorPx61
namespace Go.Proofs.YtedpdfmaccoinaaDoor.Pure
open Go.RowKit Go.Proofs.YtedpdfmaccoinaaDoor.P Go.Proofs.YtedpdfmaccoinaaDoorW.PrintWords Go.Proofs.YtedpdfmaccoinaaDoorW.PrintLast Go.Proofs.YtedpdfmaccoinaaDoorW.PrintMore
/-- A part's place in the table. -/
def atQ (q : Pt) : Nat := ((q.1 * 9 + q.2.1) * 9 + (q.1 + q.2.2.1)) * 9 + (q.2.1 + q.2.2.2)
theorem atQ_inj {w h : Nat} (hw : w ≤ 8) (hh : h ≤ 8) {q q' : Pt} (i : Inn w h q) (i' : Inn w h q') (e : atQ q = atQ q') : q = q' := by
  obtain ⟨x, y, a, b⟩ := q
  obtain ⟨x', y', a', b'⟩ := q'
  simp only [Inn, atQ] at *
  have e1 : x = x' := by omega
  subst e1
  have e2 : y = y' := by omega
  subst e2
  have e3 : a = a' := by omega
  subst e3
  have e4 : b = b' := by omega
  subst e4
  rfl
theorem atQ_lt {w h : Nat} (hw : w ≤ 8) (hh : h ≤ 8) {q : Pt} (i : Inn w h q) : atQ q < 6561 := by
  obtain ⟨x, y, a, b⟩ := q
  simp only [Inn, atQ] at *
  omega
theorem at_w (x y X Y : Nat) (h1 : x ≤ 8) (h2 : y ≤ 8) (h3 : X ≤ 8) (h4 : Y ≤ 8) : wrap64 ((wrap64 ((wrap64 ((wrap64 ((wrap64 ((wrap64 ((x : Int) * 9)) + (y : Int))) * 9)) + (X : Int))) * 9)) + (Y : Int)) = ((((x * 9 + y) * 9 + X) * 9 + Y : Nat) : Int) := by
  rw [w64 (x := (x : Int) * 9) (by omega) (by omega), w64 (x := (x : Int) * 9 + (y : Int)) (by omega) (by omega), w64 (x := ((x : Int) * 9 + (y : Int)) * 9) (by omega) (by omega), w64 (x := ((x : Int) * 9 + (y : Int)) * 9 + (X : Int)) (by omega) (by omega), w64 (x := (((x : Int) * 9 + (y : Int)) * 9 + (X : Int)) * 9) (by omega) (by omega), w64 (by omega) (by omega)]
  omega
section
variable {l : List ByteArray} {w : Nat} {most : Int}
/-- The table holds nought or what is right. -/
def Told (l : List ByteArray) (w : Nat) (most : Int) (t : List Int) : Prop := t.length = 6561 ∧ ∀ q, Inn w l.length q → rd t ((atQ q : Nat) : Int) = 0 ∨ rd t ((atQ q : Nat) : Int) = few l most q
theorem Told.set (h8 : w ≤ 8) (l8 : l.length ≤ 8) {t : List Int} (h : Told l w most t) {q : Pt} (i : Inn w l.length q) : Told l w most (t.set (atQ q) (few l most q)) := by
  refine ⟨by rw [List.length_set]; exact h.1, fun q' i' => ?_⟩
  have hl := atQ_lt h8 l8 i'
  rw [rd_lt _ _ (by rw [List.length_set, h.1]; exact hl), List.getElem_set]
  by_cases e : atQ q = atQ q'
  · rw [if_pos e, atQ_inj h8 l8 i i' e]; exact .inr rfl
  · rw [if_neg e]
    have := h.2 q' i'
    rwa [rd_lt _ _ (by rw [h.1]; exact hl)] at this
def stepQ (l : List ByteArray) (most : Int) (q : Pt) (best : Int) (c : Bool × Nat) : Int := mn best (few l most (oneP q c) + few l most (twoP q c))
theorem stepQ_one (h8 : w ≤ 8) (l8 : l.length ≤ 8) {q : Pt} : ∀ (cs : List (Bool × Nat)), (∀ c ∈ cs, Inn w l.length (oneP q c) ∧ Inn w l.length (twoP q c)) → cs.foldl (stepQ l most q) 1 = 1
  | [], _ => rfl
  | c :: cs, h => by
    have b1 := few_bd l most h8 l8 (h c (by simp)).1
    have b2 := few_bd l most h8 l8 (h c (by simp)).2
    rw [List.foldl_cons, show stepQ l most q 1 c = 1 by unfold stepQ mn; rw [if_neg (by omega)]]
    exact stepQ_one h8 l8 cs (fun c' hc => h c' (by simp [hc]))
/-- What a call comes to: the number, and the table. -/
def Tells (l : List ByteArray) (w : Nat) (most : Int) (q : Pt) : Prop := ∀ t, Told l w most t → ∃ t', Told l w most t' ∧ Ev (fun k => spec_ntFew.f k l (q.1 : Int) (q.2.1 : Int) ((q.1 + q.2.2.1 : Nat) : Int) ((q.2.1 + q.2.2.2 : Nat) : Int) most t) (few l most q, t')
theorem cutsOf_part (v : Bool) (i d : Nat) {q : Pt} (hi : 1 ≤ i) (hd : i + d ≤ (if v then q.2.2.1 else q.2.2.2)) {c : Bool × Nat} (hc : c ∈ cutsOf v i d) : c ∈ cuts q.2.2.1 q.2.2.2 := by
  have hall : ∀ (v : Bool) (d i : Nat) (j e : Nat), j ≤ i → i + d ≤ j + e → ∀ c ∈ cutsOf v i d, c ∈ cutsOf v j e := by
    intro v d
    induction d with
    | zero => intro i j e _ _ c hc; exact absurd hc List.not_mem_nil
    | succ d ih =>
      intro i j e hji hie c hc
      rcases List.mem_cons.1 hc with rfl | hc
      · have : ∀ (e j : Nat), j ≤ i → i < j + e → (v, i) ∈ cutsOf v j e := by
          intro e
          induction e with
          | zero => intro j h1 h2; omega
          | succ e ih2 =>
            intro j h1 h2
            by_cases hj : j = i
            · subst hj; exact List.mem_cons_self
            · exact List.mem_cons_of_mem _ (ih2 (j + 1) (by omega) (by omega))
        exact this e j hji (by omega)
      · exact ih (i + 1) j e (by omega) (by omega) c hc
  cases v with
  | true => exact List.mem_append.2 (.inl (hall true d i 1 _ hi (by simp only [if_true] at hd; omega) c hc))
  | false => exact List.mem_append.2 (.inr (hall false d i 1 _ hi (by simp only [Bool.false_eq_true, if_false] at hd; omega) c hc))
theorem few_l1 (h : Nuts l w) {q : Pt} (i : Inn w l.length q) (ih : ∀ q', Inn w l.length q' → siz q' < siz q → Tells l w most q') : ∀ (d p : Nat) (t : List Int) (best : Int), Told l w most t → 1 ≤ p → p + d = q.2.2.2 → 1 ≤ best → best ≤ 64 →
    ∃ t', Told l w most t' ∧ Ev (fun k => spec_ntFew.l1 k l (q.1 : Int) (q.2.1 : Int) ((q.1 + q.2.2.1 : Nat) : Int) ((q.2.1 + q.2.2.2 : Nat) : Int) most t ((atQ q : Nat) : Int) best ((q.2.1 + p : Nat) : Int)) ((cutsOf false p d).foldl (stepQ l most q) best, t'.set (atQ q) ((cutsOf false p d).foldl (stepQ l most q) best)) := by
  have h8 := h.wide8
  have l8 := h.rows8
  have hat := atQ_lt h8 l8 i
  have leave : ∀ (t : List Int) (best : Int) (z : Int), Told l w most t → Ev (fun k => spec_ntFew.j4 k l (q.1 : Int) (q.2.1 : Int) ((q.1 + q.2.2.1 : Nat) : Int) ((q.2.1 + q.2.2.2 : Nat) : Int) most t ((atQ q : Nat) : Int) best z false) (best, t.set (atQ q) best) := by
    intro t best z ht
    have e1 : (0 : Int) ≤ ((atQ q : Nat) : Int) := by omega
    have e2 : ((atQ q : Nat) : Int) < (t.length : Int) := by rw [ht.1]; omega
    refine Ev.step (f := fun _ => some (best, t.set (atQ q) best)) (fun k => ?_) (Ev.now _)
    simp only [spec_ntFew.j4, Bool.false_eq_true, if_false]
    rw [if_pos e1, if_pos e2, Int.toNat_natCast]
  intro d
  induction d with
  | zero =>
    intro p t best ht hp hpd hb1 hb2
    refine ⟨t, ht, ?_⟩
    refine Ev.step (fun k => ?_) (leave t best ((q.2.1 + p : Nat) : Int) ht)
    simp only [spec_ntFew.l1]
    rw [if_neg (by omega)]
  | succ d ihd =>
    intro p t best ht hp hpd hb1 hb2
    have hlt : ((q.2.1 + p : Nat) : Int) < ((q.2.1 + q.2.2.2 : Nat) : Int) := by omega
    by_cases hb : best > 1
    · have hc : (false, p) ∈ cuts q.2.2.1 q.2.2.2 := cutsOf_part false p (d + 1) hp (by simp only [Bool.false_eq_true, if_false]; omega) (List.mem_cons_self)
      have i1 := i.one hc
      have i2 := i.two hc
      obtain ⟨t1, ht1, ev1⟩ := ih _ i1.1 i1.2 t ht
      obtain ⟨t2, ht2, ev2⟩ := ih _ i2.1 i2.2 t1 ht1
      have b1 := few_bd l most h8 l8 i1.1
      have b2 := few_bd l most h8 l8 i2.1
      have m := mn_bd best (few l most (oneP q (false, p)) + few l most (twoP q (false, p))) 64 hb1 hb2 (by omega)
      obtain ⟨t3, ht3, ev3⟩ := ihd (p + 1) t2 (stepQ l most q best (false, p)) ht2 (by omega) (by omega) m.1 m.2
      refine ⟨t3, ht3, ?_⟩
      refine Ev.step (fun k => by simp only [spec_ntFew.l1]; rw [if_pos hlt, decide_eq_true hb]) ?_
      refine Ev.step (fun k => by simp only [spec_ntFew.j4, if_true]; rfl) ?_
      simp only [oneP, twoP, Bool.false_eq_true, if_false] at ev1 ev2
      rw [show q.2.1 + p + (q.2.2.2 - p) = q.2.1 + q.2.2.2 by omega] at ev2
      refine Ev.bind ev1 (Ev.bind ev2 ?_)
      refine ev_val (a := stepQ l most q best (false, p)) ?_ ?_
      · simp only [oneP, twoP, Bool.false_eq_true, if_false] at b1 b2
        unfold spec_l1Least.f stepQ mn
        simp only [oneP, twoP, Bool.false_eq_true, if_false]
        rw [w64 (by omega) (by omega)]
        by_cases c : best < few l most (q.1, q.2.1, q.2.2.1, p) + few l most (q.1, q.2.1 + p, q.2.2.1, q.2.2.2 - p)
        · rw [if_pos c, if_neg (by omega)]
        · rw [if_neg c]
          by_cases c2 : few l most (q.1, q.2.1, q.2.2.1, p) + few l most (q.1, q.2.1 + p, q.2.2.1, q.2.2.2 - p) < best
          · rw [if_pos c2]
          · rw [if_neg c2]; congr 1; omega
      · rw [show wrap64 (((q.2.1 + p : Nat) : Int) + 1) = ((q.2.1 + (p + 1) : Nat) : Int) by have := i.2.2.2; rw [w64 (by omega) (by omega)]; omega]
        exact ev3
    · have e1 : best = 1 := by omega
      have hall : (cutsOf false p (d + 1)).foldl (stepQ l most q) best = best := by
        rw [e1]
        exact stepQ_one h8 l8 _ (fun c hc => by
          have hc' := cutsOf_part (q := q) false p (d + 1) hp (by simp only [Bool.false_eq_true, if_false]; omega) hc
          exact ⟨(i.one hc').1, (i.two hc').1⟩)
      rw [hall]
      refine ⟨t, ht, ?_⟩
      refine Ev.step (fun k => by simp only [spec_ntFew.l1]; rw [if_pos hlt, decide_eq_false hb]) ?_
      exact leave t best _ ht
theorem few_l0 (h : Nuts l w) {q : Pt} (i : Inn w l.length q) (ih : ∀ q', Inn w l.length q' → siz q' < siz q → Tells l w most q') : ∀ (d p : Nat) (t : List Int) (best : Int), Told l w most t → 1 ≤ p → p + d = q.2.2.1 → 1 ≤ best → best ≤ 64 →
    ∃ t', Told l w most t' ∧ Ev (fun k => spec_ntFew.l0 k l (q.1 : Int) (q.2.1 : Int) ((q.1 + q.2.2.1 : Nat) : Int) ((q.2.1 + q.2.2.2 : Nat) : Int) most t ((atQ q : Nat) : Int) best ((q.1 + p : Nat) : Int)) ((cutsOf true p d ++ cutsOf false 1 (q.2.2.2 - 1)).foldl (stepQ l most q) best, t'.set (atQ q) ((cutsOf true p d ++ cutsOf false 1 (q.2.2.2 - 1)).foldl (stepQ l most q) best)) := by
  have h8 := h.wide8
  have l8 := h.rows8
  have next : ∀ (t : List Int) (best : Int) (z : Int), Told l w most t → 1 ≤ best → best ≤ 64 → ∃ t', Told l w most t' ∧ Ev (fun k => spec_ntFew.j2 k l (q.1 : Int) (q.2.1 : Int) ((q.1 + q.2.2.1 : Nat) : Int) ((q.2.1 + q.2.2.2 : Nat) : Int) most t ((atQ q : Nat) : Int) best z false) ((cutsOf false 1 (q.2.2.2 - 1)).foldl (stepQ l most q) best, t'.set (atQ q) ((cutsOf false 1 (q.2.2.2 - 1)).foldl (stepQ l most q) best)) := by
    intro t best z ht hb1 hb2
    obtain ⟨t', ht', ev⟩ := few_l1 h i ih (q.2.2.2 - 1) 1 t best ht (Nat.le_refl _) (by have := i.2.1; omega) hb1 hb2
    refine ⟨t', ht', ?_⟩
    refine Ev.step (fun k => ?_) ev
    simp only [spec_ntFew.j2, Bool.false_eq_true, if_false]
    rw [show wrap64 ((q.2.1 : Int) + 1) = ((q.2.1 + 1 : Nat) : Int) by have := i.2.2.2; rw [w64 (by omega) (by omega)]; omega]
  intro d
  induction d with
  | zero =>
    intro p t best ht hp hpd hb1 hb2
    obtain ⟨t', ht', ev⟩ := next t best ((q.1 + p : Nat) : Int) ht hb1 hb2
    refine ⟨t', ht', ?_⟩
    refine Ev.step (fun k => ?_) ev
    simp only [spec_ntFew.l0]
    rw [if_neg (by omega)]
  | succ d ihd =>
    intro p t best ht hp hpd hb1 hb2
    have hlt : ((q.1 + p : Nat) : Int) < ((q.1 + q.2.2.1 : Nat) : Int) := by omega
    by_cases hb : best > 1
    · have hc : (true, p) ∈ cuts q.2.2.1 q.2.2.2 := cutsOf_part true p (d + 1) hp (by simp only [if_true]; omega) (List.mem_cons_self)
      have i1 := i.one hc
      have i2 := i.two hc
      obtain ⟨t1, ht1, ev1⟩ := ih _ i1.1 i1.2 t ht
      obtain ⟨t2, ht2, ev2⟩ := ih _ i2.1 i2.2 t1 ht1
      have b1 := few_bd l most h8 l8 i1.1
      have b2 := few_bd l most h8 l8 i2.1
      have m := mn_bd best (few l most (oneP q (true, p)) + few l most (twoP q (true, p))) 64 hb1 hb2 (by omega)
      obtain ⟨t3, ht3, ev3⟩ := ihd (p + 1) t2 (stepQ l most q best (true, p)) ht2 (by omega) (by omega) m.1 m.2
      refine ⟨t3, ht3, ?_⟩
      refine Ev.step (fun k => by simp only [spec_ntFew.l0]; rw [if_pos hlt, decide_eq_true hb]) ?_
      refine Ev.step (fun k => by simp only [spec_ntFew.j2, if_true]; rfl) ?_
      simp only [oneP, twoP, if_true] at ev1 ev2
      rw [show q.1 + p + (q.2.2.1 - p) = q.1 + q.2.2.1 by omega] at ev2
      refine Ev.bind ev1 (Ev.bind ev2 ?_)
      refine ev_val (a := stepQ l most q best (true, p)) ?_ ?_
      · simp only [oneP, twoP, if_true] at b1 b2
        unfold spec_l1Least.f stepQ mn
        simp only [oneP, twoP, if_true]
        rw [w64 (by omega) (by omega)]
        by_cases c : best < few l most (q.1, q.2.1, p, q.2.2.2) + few l most (q.1 + p, q.2.1, q.2.2.1 - p, q.2.2.2)
        · rw [if_pos c, if_neg (by omega)]
        · rw [if_neg c]
          by_cases c2 : few l most (q.1, q.2.1, p, q.2.2.2) + few l most (q.1 + p, q.2.1, q.2.2.1 - p, q.2.2.2) < best
          · rw [if_pos c2]
          · rw [if_neg c2]; congr 1; omega
      · rw [show wrap64 (((q.1 + p : Nat) : Int) + 1) = ((q.1 + (p + 1) : Nat) : Int) by have := i.2.2.1; rw [w64 (by omega) (by omega)]; omega]
        exact ev3
    · have e1 : best = 1 := by omega
      obtain ⟨t', ht', ev⟩ := next t best ((q.1 + p : Nat) : Int) ht hb1 hb2
      have hall : (cutsOf true p (d + 1)).foldl (stepQ l most q) best = best := by
        rw [e1]
        exact stepQ_one h8 l8 _ (fun c hc => by
          have hc' := cutsOf_part (q := q) true p (d + 1) hp (by simp only [if_true]; omega) hc
          exact ⟨(i.one hc').1, (i.two hc').1⟩)
      rw [List.foldl_append, hall]
      refine ⟨t', ht', ?_⟩
      refine Ev.step (fun k => by simp only [spec_ntFew.l0]; rw [if_pos hlt, decide_eq_false hb]) ev
theorem tells (h : Nuts l w) : ∀ (s : Nat) (q : Pt), Inn w l.length q → siz q ≤ s → Tells l w most q := by
  have h8 := h.wide8
  have l8 := h.rows8
  intro s
  induction s with
  | zero => intro q i hs; exact absurd i.1 (by unfold siz at hs; omega)
  | succ s ih =>
    intro q i hs t ht
    have hat := atQ_lt h8 l8 i
    have hw := at_w q.1 q.2.1 (q.1 + q.2.2.1) (q.2.1 + q.2.2.2) (by have := i.2.2.1; omega) (by have := i.2.2.2; omega) (by have := i.2.2.1; omega) (by have := i.2.2.2; omega)
    rw [show ((q.1 * 9 + q.2.1) * 9 + (q.1 + q.2.2.1)) * 9 + (q.2.1 + q.2.2.2) = atQ q from rfl] at hw
    have e1 : (0 : Int) ≤ ((atQ q : Nat) : Int) := by omega
    have e2 : ((atQ q : Nat) : Int) < (t.length : Int) := by rw [ht.1]; omega
    have ar := area_le h8 l8 i
    have sm := ntSum_ev h q.1 q.2.1 (q.1 + q.2.2.1) (q.2.1 + q.2.2.2) (by omega) i.2.2.1 (by omega) i.2.2.2
    rw [show q.1 + q.2.2.1 - q.1 = q.2.2.1 by omega, show q.2.1 + q.2.2.2 - q.2.1 = q.2.2.2 by omega] at sm
    have bd := few_bd l most h8 l8 i
    by_cases hold : rd t ((atQ q : Nat) : Int) > 0
    · have : rd t ((atQ q : Nat) : Int) = few l most q := by
        rcases ht.2 q i with e | e
        · omega
        · exact e
      refine ⟨t, ht, ?_⟩
      refine Ev.step (f := fun _ => some (few l most q, t)) (fun k => ?_) (Ev.now _)
      simp only [spec_ntFew.f, hw]
      rw [if_pos e1, if_pos e2, if_pos hold, this]
    · have fe := few_eq l most h8 l8 i
      have hcuts : cuts q.2.2.1 q.2.2.2 = cutsOf true 1 (q.2.2.1 - 1) ++ cutsOf false 1 (q.2.2.2 - 1) := rfl
      have ihs : ∀ q', Inn w l.length q' → siz q' < siz q → Tells l w most q' := fun q' i' hq' => ih q' i' (by omega)
      have j0 : ∀ best : Int, 1 ≤ best → best ≤ 64 → (cuts q.2.2.1 q.2.2.2).foldl (stepQ l most q) best = few l most q → ∃ t', Told l w most t' ∧ Ev (fun k => spec_ntFew.j0 k l (q.1 : Int) (q.2.1 : Int) ((q.1 + q.2.2.1 : Nat) : Int) ((q.2.1 + q.2.2.2 : Nat) : Int) most t ((atQ q : Nat) : Int) best) (few l most q, t') := by
        intro best hb1 hb2 hf
        obtain ⟨t', ht', ev⟩ := few_l0 h i ihs (q.2.2.1 - 1) 1 t best ht (Nat.le_refl _) (by have := i.1; omega) hb1 hb2
        rw [← hcuts, hf] at ev
        refine ⟨_, ht'.set h8 l8 i, ?_⟩
        refine Ev.step (fun k => ?_) ev
        simp only [spec_ntFew.j0]
        rw [show wrap64 ((q.1 : Int) + 1) = ((q.1 + 1 : Nat) : Int) by have := i.2.2.1; rw [w64 (by omega) (by omega)]; omega]
      have parts : ∀ c ∈ cuts q.2.2.1 q.2.2.2, Inn w l.length (oneP q c) ∧ Inn w l.length (twoP q c) := fun c hc => ⟨(i.one hc).1, (i.two hc).1⟩
      by_cases hle : partSum l q.1 q.2.2.1 q.2.1 q.2.2.2 ≤ most
      · obtain ⟨t', ht', ev⟩ := j0 1 (by omega) (by omega) (by rw [stepQ_one h8 l8 _ parts, fe, if_pos (Or.inr hle)])
        refine ⟨t', ht', ?_⟩
        refine Ev.step (fun k => by simp only [spec_ntFew.f, hw]; rw [if_pos e1, if_pos e2, if_neg hold]) (Ev.bind sm ?_)
        exact ev_if_pos hle ev
      · have hsub : wrap64 ((wrap64 (((q.1 + q.2.2.1 : Nat) : Int) - (q.1 : Int))) * (wrap64 (((q.2.1 + q.2.2.2 : Nat) : Int) - (q.2.1 : Int)))) = ((area q : Nat) : Int) := by
          have x1 := i.2.2.1
          have x2 := i.2.2.2
          rw [w64 (x := ((q.1 + q.2.2.1 : Nat) : Int) - (q.1 : Int)) (by omega) (by omega), w64 (x := ((q.2.1 + q.2.2.2 : Nat) : Int) - (q.2.1 : Int)) (by omega) (by omega)]
          rw [show ((q.1 + q.2.2.1 : Nat) : Int) - (q.1 : Int) = (q.2.2.1 : Int) by omega, show ((q.2.1 + q.2.2.2 : Nat) : Int) - (q.2.1 : Int) = (q.2.2.2 : Int) by omega, ← Int.natCast_mul]
          unfold area at ar ⊢
          rw [w64 (by omega) (by omega)]
        have hfold : (cuts q.2.2.1 q.2.2.2).foldl (stepQ l most q) ((area q : Nat) : Int) = few l most q := by
          rw [fe]
          by_cases ha : area q = 1
          · rw [if_pos (Or.inl ha), ha]
            exact stepQ_one h8 l8 _ parts
          · rw [if_neg (by intro hh; rcases hh with hh | hh; exact ha hh; exact hle hh)]
            rfl
        obtain ⟨t', ht', ev⟩ := j0 ((area q : Nat) : Int) (by omega) (by omega) hfold
        refine ⟨t', ht', ?_⟩
        refine Ev.step (fun k => by simp only [spec_ntFew.f, hw]; rw [if_pos e1, if_pos e2, if_neg hold]) (Ev.bind sm ?_)
        refine ev_if_neg hle ?_
        rw [hsub]
        exact ev
end
theorem fewest_both (l : List ByteArray) (a : Int) (hl : l.length ≤ 1048576) (hz : sizes l ≤ 1048576) : ∃ r, Ev (fun k => spec_FewestPieces.f k l a) r ∧ impl_FewestPieces.f l a = some r := by
  obtain ⟨b, hg, hi, hb⟩ := good_both l hl hz
  cases b with
  | false =>
    refine ⟨(0, false), ?_, ?_⟩
    · unfold spec_FewestPieces.f
      refine Ev.bind hg (ev_if_neg (by decide) (Ev.now _))
    · unfold impl_FewestPieces.f
      rw [if_pos ⟨hl, hz⟩, hi]
      rfl
  | true =>
    obtain ⟨w, h⟩ := hb rfl
    have hp := h.rows1
    by_cases hn : a < 0
    · refine ⟨(0, false), ?_, ?_⟩
      · unfold spec_FewestPieces.f
        exact Ev.bind hg (ev_if_pos rfl (ev_if_pos hn (Ev.now _)))
      · unfold impl_FewestPieces.f
        rw [if_pos ⟨hl, hz⟩, hi, Option.bind_some, if_pos rfl, if_pos hn]
    · refine ⟨(few l a (0, 0, w, l.length), true), ?_, ?_⟩
      · have ht0 : Told l w a (List.replicate 6561 0) := ⟨by rw [List.length_replicate], fun q i => .inl (by rw [rd_lt _ _ (by rw [List.length_replicate]; exact atQ_lt h.wide8 h.rows8 i), List.getElem_replicate])⟩
        obtain ⟨t', _, ev⟩ := tells h _ _ (Nuts.inn h) (Nat.le_refl _) _ ht0
        simp only [Nat.zero_add, Int.natCast_zero] at ev
        unfold spec_FewestPieces.f
        refine Ev.bind hg (ev_if_pos rfl (ev_if_neg hn (ev_if_pos (by omega) (ev_if_pos (by decide) ?_))))
        rw [Nuts.width h]
        exact Ev.bind ev (Ev.now _)
      · unfold impl_FewestPieces.f
        rw [if_pos ⟨hl, hz⟩, hi, Option.bind_some, if_pos rfl, if_neg hn, Nuts.width h]
theorem FnExactFewestPieces (l0 : List ByteArray) (hm : l0.length ≤ maxLen) (_ : l0.length * 16 ≤ 140737488351232) (hs : (∀ s ∈ l0, s.size ≤ 140737488351232)) (a1 : Int) (_ : (Lit.int .i64 a1).wf = true) : ∃ k, laws_FnExactFewestPieces.f k l0 a1 = some true := by
  refine Ev.rounds (r := true) ?_
  unfold laws_FnExactFewestPieces.f
  obtain ⟨t, ht, hz⟩ := sz_ev l0 hm hs
  refine Ev.bind ht ?_
  by_cases h0 : t < 0
  · simp only [if_pos h0]
    exact Ev.now _
  · simp only [if_neg h0]
    obtain ⟨hl, hz⟩ := hz (by omega)
    have hc := toStringS_ev l0 hl
    obtain ⟨r, hS, hI⟩ := fewest_both l0 a1 hl hz
    refine Ev.bind hc (Ev.bind hS (Ev.bind hc (ev_val hI (ev_if_pos rfl ?_))))
    rw [bne_self_eq_false]
    refine Ev.step (fun k => by simp only [laws_FnExactFewestPieces.j0, Bool.false_eq_true, if_false]; rfl) ?_
    refine Ev.bind hc (Ev.bind (eqStringS_refl l0 (by omega)) ?_)
    exact ev_if_pos rfl (Ev.now _)
end Go.Proofs.YtedpdfmaccoinaaDoor.Pure
