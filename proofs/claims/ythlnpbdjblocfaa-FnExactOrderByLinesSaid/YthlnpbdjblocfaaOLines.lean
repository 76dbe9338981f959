/- Lines by their costs: the list of the reference is the stable sort of all lines. Conditions: costs from 0 to 100. | Rows of lines in memory: from rows that lie apart to elements, and back. Conditions: as each states. | The two literals of impl.OrderByLines: a line's cost, and the comparison by it. Conditions: as each states. | What impl.OrderByLines leaves in memory on its way, and its sort. Conditions: as each states. | impl.OrderByLines: the call hands back the lines in the reference's order, or nothing. Conditions: the slices read as the lists. -/
import Derived.Test.YthlnpbdjblocfaaOStab
import Derived.Test.YthlnpbdjblocfaaUW
import Derived.Test.YthlnpbdjblocfaaPx40
import Derived.Test.YthlnpbdjblocfaaWMore
import Derived.Test.YthlnpbdjblocfaaPx45
import Derived.Laws.EntriesVeiled
namespace Go.Proofs.Ythlnpbdjblocfaa.Pure
open Go Go.RowKit Go.Proofs.Ythlnpbdjblocfaa.P Go.Proofs.Ythlnpbdjblocfaa.Srt Go.Proofs.YthlnpbdjblocfaaW.PrintWords Go.Proofs.YthlnpbdjblocfaaW.PrintLast Go.Proofs.YthlnpbdjblocfaaW.PrintMore
set_option linter.unusedVariables false
set_option linter.unusedSimpArgs false
abbrev Ln := Nat × Nat
section
variable (ds cr : List Int)
def costL (p : Ln) : Int := if p.1 = 0 then rd ds (p.2 : Int) else rd cr (p.2 : Int)
def linesL : List Ln := (List.range ds.length).map (fun k => (0, k)) ++ (List.range cr.length).map (fun k => (1, k))
/-- Whether one stands ahead of another by its cost alone. -/
def ltL (x y : Ln) : Bool := decide (costL ds cr y < costL ds cr x)
def lexL (p q : Ln) : Prop := p.1 < q.1 ∨ (p.1 = q.1 ∧ p.2 < q.2)
def TL (p q : Ln) : Prop := costL ds cr q < costL ds cr p ∨ (costL ds cr p = costL ds cr q ∧ lexL p q)
def atCost (c : Int) : List Ln := (linesL ds cr).filter (fun p => decide (costL ds cr p = c))
def ordL : List Ln := (List.range 101).flatMap fun (j : Nat) => atCost ds cr (100 - (j : Int))
variable {ds cr}
theorem TL_trans (x y z : Ln) (h1 : TL ds cr x y) (h2 : TL ds cr y z) : TL ds cr x z := by
  unfold TL lexL at *
  omega
theorem TL_asym (x y : Ln) (h1 : TL ds cr x y) : ¬ TL ds cr y x := by
  unfold TL lexL at *
  omega
theorem lines_lex : (linesL ds cr).Pairwise lexL := by
  unfold linesL
  refine List.pairwise_append.2 ⟨?_, ?_, ?_⟩
  · rw [List.pairwise_map]
    exact List.pairwise_lt_range.imp (fun h => .inr ⟨rfl, h⟩)
  · rw [List.pairwise_map]
    exact List.pairwise_lt_range.imp (fun h => .inr ⟨rfl, h⟩)
  · intro x hx y hy
    obtain ⟨i, _, rfl⟩ := List.mem_map.1 hx
    obtain ⟨j, _, rfl⟩ := List.mem_map.1 hy
    exact .inl Nat.zero_lt_one
theorem lines_agree : (linesL ds cr).Pairwise (Agree (ltL ds cr) (TL ds cr)) := by
  refine lines_lex.imp (fun {y x} h => ⟨fun hl => .inl (of_decide_eq_true hl), fun hl => ?_⟩)
  have h2 := of_decide_eq_false hl
  unfold TL
  by_cases e : costL ds cr x < costL ds cr y
  · exact .inl e
  · exact .inr ⟨by omega, h⟩
theorem lines_len : (linesL ds cr).length = ds.length + cr.length := by unfold linesL; simp
theorem ord_sorted : (ordL ds cr).Pairwise (TL ds cr) := by
  unfold ordL
  rw [List.pairwise_flatMap]
  refine ⟨fun j _ => ?_, ?_⟩
  · unfold atCost
    rw [List.pairwise_filter]
    refine lines_lex.imp (fun {x y} h h1 h2 => .inr ⟨?_, h⟩)
    have e1 := of_decide_eq_true h1
    have e2 := of_decide_eq_true h2
    omega
  · refine List.pairwise_lt_range.imp (fun {i j} h x hx y hy => .inl ?_)
    have e1 := of_decide_eq_true (List.mem_filter.1 hx).2
    have e2 := of_decide_eq_true (List.mem_filter.1 hy).2
    omega
theorem ord_mem (hd : ∀ p ∈ linesL ds cr, 0 ≤ costL ds cr p ∧ costL ds cr p ≤ 100) (p : Ln) : p ∈ ordL ds cr ↔ p ∈ linesL ds cr := by
  unfold ordL atCost
  rw [List.mem_flatMap]
  constructor
  · rintro ⟨j, _, h⟩
    exact (List.mem_filter.1 h).1
  · intro h
    have hc := hd p h
    refine ⟨(100 - costL ds cr p).toNat, List.mem_range.2 (by omega), List.mem_filter.2 ⟨h, decide_eq_true (by omega)⟩⟩
theorem sorted_same {T : Ln → Ln → Prop} (cr : ∀ x y, T x y → ¬ T y x) : ∀ (A B : List Ln), (∀ p, p ∈ A ↔ p ∈ B) → A.Pairwise T → B.Pairwise T → A = B
  | [], B, p, _, _ => by
    cases B with
    | nil => rfl
    | cons y B => exact absurd ((p y).2 (by simp)) (by simp)
  | x :: A, B, p, sA, sB => by
    cases B with
    | nil => exact absurd ((p x).1 (by simp)) (by simp)
    | cons y B =>
      obtain ⟨a1, a2⟩ := List.pairwise_cons.1 sA
      obtain ⟨b1, b2⟩ := List.pairwise_cons.1 sB
      have hxy : x = y := by
        rcases List.mem_cons.1 ((p x).1 (by simp)) with e | hx
        · exact e
        · rcases List.mem_cons.1 ((p y).2 (by simp)) with e | hy
          · exact e.symm
          · exact absurd (a1 y hy) (cr _ _ (b1 x hx))
      subst hxy
      have : A = B := sorted_same cr A B (fun q => by
        have h := p q
        rw [List.mem_cons, List.mem_cons] at h
        constructor
        · intro hq
          rcases h.1 (.inr hq) with e | h2
          · subst e; exact absurd (a1 _ hq) (cr _ _ (a1 _ hq))
          · exact h2
        · intro hq
          rcases h.2 (.inr hq) with e | h2
          · subst e; exact absurd (b1 _ hq) (cr _ _ (b1 _ hq))
          · exact h2) a2 b2
      rw [this]
/-- The stable sort of the lines is the reference's order. -/
theorem stab_ord (hl : ds.length + cr.length ≤ 39) (hd : ∀ p ∈ linesL ds cr, 0 ≤ costL ds cr p ∧ costL ds cr p ≤ 100) : stab (ltL ds cr) (linesL ds cr) = ordL ds cr := by
  obtain ⟨p, q⟩ := stab_ok (ltL ds cr) TL_trans (linesL ds cr) (by rw [lines_len]; exact hl) lines_agree
  exact sorted_same TL_asym _ _ (fun x => (p.mem_iff).trans (ord_mem hd x).symm) q ord_sorted
def encL (p : Ln) : List Int := [(p.1 : Int), (p.2 : Int)]
theorem order_l2 (hl : ds.length + cr.length ≤ 39) (c : Int) (r : List (List Int)) : ∀ (d j : Nat) (acc : List (List Int)), j + d = cr.length → acc.length + d ≤ 100000 →
    Ev (fun k => spec_brOrder.l0 k ds cr (acc ++ (((List.range' j d).map (fun k => ((1, k) : Ln))).filter (fun p => decide (costL ds cr p = c))).map encL) (wrap64 (c - 1))) r →
    Ev (fun k => spec_brOrder.l2 k ds cr acc c cr (cr.length : Int) (j : Int)) r := by
  intro d
  induction d with
  | zero =>
    intro j acc hj ha next
    refine Ev.step (fun k => by simp only [spec_brOrder.l2]; rfl) ?_
    refine ev_if_neg (by omega) ?_
    simpa using next
  | succ d ih =>
    intro j acc hj ha next
    have E1 := Aside0.mk (show wrap64 ((j : Int) + 1) = ((j + 1 : Nat) : Int) by rw [w64 (by omega) (by omega)]; rfl)
    have hc : costL ds cr ((1, j) : Ln) = rd cr (j : Int) := rfl
    rw [List.range'_succ, List.map_cons, List.filter_cons, hc] at next
    refine Ev.step (fun k => by simp only [spec_brOrder.l2]; rfl) ?_
    refine ev_if_pos (by omega) ?_
    refine ev_if_pos (by omega) ?_
    refine ev_if_pos (by omega) ?_
    rw [E1.out]
    by_cases h : rd cr (j : Int) = c
    · rw [if_pos (decide_eq_true h), List.map_cons] at next
      refine ev_if_pos h (ev_if_pos (by omega) (ih (j + 1) _ (by omega) (by rw [List.length_append, List.length_singleton]; omega) ?_))
      rw [List.append_assoc]
      exact next
    · rw [if_neg (by simpa using h)] at next
      exact ev_if_neg h (ih (j + 1) acc (by omega) (by omega) next)
theorem order_l1 (hl : ds.length + cr.length ≤ 39) (c : Int) (r : List (List Int)) : ∀ (d j : Nat) (acc : List (List Int)), j + d = ds.length → acc.length + d ≤ 90000 →
    Ev (fun k => spec_brOrder.l2 k ds cr (acc ++ (((List.range' j d).map (fun k => ((0, k) : Ln))).filter (fun p => decide (costL ds cr p = c))).map encL) c cr (cr.length : Int) 0) r →
    Ev (fun k => spec_brOrder.l1 k ds cr acc c ds (ds.length : Int) (j : Int)) r := by
  intro d
  induction d with
  | zero =>
    intro j acc hj ha next
    refine Ev.step (fun k => by simp only [spec_brOrder.l1]; rfl) ?_
    refine ev_if_neg (by omega) ?_
    simpa using next
  | succ d ih =>
    intro j acc hj ha next
    have E1 := Aside0.mk (show wrap64 ((j : Int) + 1) = ((j + 1 : Nat) : Int) by rw [w64 (by omega) (by omega)]; rfl)
    have hc : costL ds cr ((0, j) : Ln) = rd ds (j : Int) := rfl
    rw [List.range'_succ, List.map_cons, List.filter_cons, hc] at next
    refine Ev.step (fun k => by simp only [spec_brOrder.l1]; rfl) ?_
    refine ev_if_pos (by omega) ?_
    refine ev_if_pos (by omega) ?_
    refine ev_if_pos (by omega) ?_
    rw [E1.out]
    by_cases h : rd ds (j : Int) = c
    · rw [if_pos (decide_eq_true h), List.map_cons] at next
      refine ev_if_pos h (ev_if_pos (by omega) (ih (j + 1) _ (by omega) (by rw [List.length_append, List.length_singleton]; omega) ?_))
      rw [List.append_assoc]
      exact next
    · rw [if_neg (by simpa using h)] at next
      exact ev_if_neg h (ih (j + 1) acc (by omega) (by omega) next)
theorem at_len (c : Int) : (atCost ds cr c).length ≤ ds.length + cr.length := by
  unfold atCost
  have := List.length_filter_le (fun p => decide (costL ds cr p = c)) (linesL ds cr)
  rw [lines_len] at this
  exact this
theorem order_l0 (hl : ds.length + cr.length ≤ 39) : ∀ (d j : Nat) (acc : List (List Int)), j + d = 101 → acc.length + 40 * d ≤ 50000 →
    Ev (fun k => spec_brOrder.l0 k ds cr acc (100 - (j : Int))) (acc ++ ((List.range' j d).flatMap fun (j : Nat) => atCost ds cr (100 - (j : Int))).map encL) := by
  intro d
  induction d with
  | zero =>
    intro j acc hj ha
    refine Ev.step (f := fun _ => some acc) (fun k => ?_) (by simpa using Ev.now _)
    simp only [spec_brOrder.l0]
    rw [if_neg (by omega)]
  | succ d ih =>
    intro j acc hj ha
    have hal := at_len (ds := ds) (cr := cr) (100 - (j : Int))
    have n := ih (j + 1) (acc ++ (atCost ds cr (100 - (j : Int))).map encL) (by omega) (by rw [List.length_append, List.length_map]; omega)
    have E1 := Aside0.mk (show wrap64 (100 - (j : Int) - 1) = 100 - ((j + 1 : Nat) : Int) by rw [w64 (by omega) (by omega)]; omega)
    rw [← E1.out] at n
    rw [List.range'_succ, List.flatMap_cons, List.map_append, ← List.append_assoc]
    refine Ev.step (fun k => by simp only [spec_brOrder.l0]; rfl) ?_
    refine ev_if_pos (by omega) ?_
    refine order_l1 hl _ _ ds.length 0 acc (by omega) (by omega) ?_
    refine order_l2 hl _ _ cr.length 0 _ (by omega) (by
      have := List.length_filter_le (fun p => decide (costL ds cr p = 100 - (j : Int))) ((List.range' 0 ds.length).map (fun k => ((0, k) : Ln)))
      rw [List.length_append, List.length_map]
      simp only [List.length_map, List.length_range'] at this
      omega) ?_
    have e : (atCost ds cr (100 - (j : Int))).map encL = (((List.range' 0 ds.length).map (fun k => ((0, k) : Ln))).filter (fun p => decide (costL ds cr p = 100 - (j : Int)))).map encL ++ (((List.range' 0 cr.length).map (fun k => ((1, k) : Ln))).filter (fun p => decide (costL ds cr p = 100 - (j : Int)))).map encL := by
      unfold atCost linesL
      rw [List.filter_append, List.map_append, List.range_eq_range', List.range_eq_range']
    rw [List.append_assoc, ← e]
    exact n
theorem order_ev (hl : ds.length + cr.length ≤ 39) : Ev (fun k => spec_brOrder.f k ds cr) ((ordL ds cr).map encL) := by
  have := order_l0 (ds := ds) (cr := cr) hl 101 0 [] (by omega) (by simp)
  unfold spec_brOrder.f ordL
  rw [List.range_eq_range']
  simpa using this
end
end Go.Proofs.Ythlnpbdjblocfaa.Pure

namespace Go.Proofs.Ythlnpbdjblocfaa.P
open Go.RowKit Go.Proofs.Ythlnpbdjblocfaa.Srt Go.Proofs.YthlnpbdjblocfaaW.PrintWords Go.Proofs.YthlnpbdjblocfaaW.PrintLast Go.Proofs.YthlnpbdjblocfaaW.PrintMore Go.Proofs.Ythlnpbdjblocfaa.Pure
set_option linter.unusedVariables false
set_option linter.unusedSimpArgs false
/-- A line's block says what the line is. -/
def LineAt (W : World) (base : Nat) (x : El) : Prop := W.ownsRow base 3 1 (encE x) 2 [.int .i64 (x.p.1 : Int), .int .i64 (x.p.2 : Int)]
theorem line_block {W : World} {base : Nat} {x : El} (h : LineAt W base x) : base ≤ x.g ∧ ∃ cur, W.heap[x.g]? = some (.cells cur 3 (0, 0)) ∧ cur.toList.take 2 = [.int .i64 (x.p.1 : Int), .int .i64 (x.p.2 : Int)] := by
  obtain ⟨_, h⟩ := h
  rcases h with ⟨hv, _⟩ | ⟨g, cap, cur, hv, hb, hh, _, _, _, ht⟩
  · cases hv
  · unfold encE at hv
    injection hv with ha _ _
    injection ha with ha
    injection ha with ha _ _
    subst ha
    exact ⟨hb, cur, hh, ht⟩
theorem line_lt {W : World} {base : Nat} {x : El} (h : LineAt W base x) : x.g < W.heap.size := by
  obtain ⟨_, cur, hh, _⟩ := line_block h
  exact blk_lt hh
theorem line_move {W W' : World} {base : Nat} {x : El} (h : LineAt W base x) (hm : W'.heap[x.g]? = W.heap[x.g]?) : LineAt W' base x :=
  own_move h (fun k hk => by
    have : x.g = k := by simpa [encE, Value.ownBlock] using hk
    subst this
    exact hm)
theorem line_cells {W : World} {base : Nat} {x : El} (h : LineAt W base x) : W.cell? ⟨x.g, 0, none⟩ = some (.int .i64 (x.p.1 : Int)) ∧ W.cell? ⟨x.g, 1, none⟩ = some (.int .i64 (x.p.2 : Int)) := by
  have hr : (Kd.int .i64).R 3 W base (fun _ => True) (.slice (some ⟨x.g, 0, none⟩) 2 x.c) [(x.p.1 : Int), (x.p.2 : Int)] := Kd.R_of_own (enc := Value.int .i64) h (fun _ _ => trivial)
  have h0 := (Kd.R_celln 0 hr 0 (by omega) (by omega)).1
  have h1 := (Kd.R_celln 0 hr 1 (by omega) (by omega)).1
  exact ⟨h0, h1⟩
theorem to_els {W : World} {base n c : Nat} {A : Option Addr} {ok : Nat → Prop} {ls : List Ln} (h : Kd.S (Kd.slice 3 (Kd.int .i64)) 35 W base ok (.slice A n c) (ls.map encL)) :
    ∃ els : List El, els.map El.p = ls ∧ kdE.R 35 W base ok (.slice A n c) els ∧ (∀ x ∈ els, LineAt W base x ∧ some x.g ≠ (Value.slice A n c).ownBlock) ∧ (els.map El.g).Nodup := by
  obtain ⟨f, h0, inner, ho, hl0, hr⟩ := h
  rw [List.length_zipIdx, List.length_map] at ho
  have hl : inner.length = ls.length := by
    rw [List.length_zipIdx, List.length_map] at hl0
    rw [hl0]
    exact Nat.mul_one _
  have each : ∀ j, j < ls.length → ∃ x : El, some x.p = ls[j]? ∧ inner[j]? = some (encE x) ∧ LineAt W base x ∧ some x.g ≠ (Value.slice A n c).ownBlock ∧ f x.g = j := by
    intro j hj
    have hz : (ls.map encL).zipIdx[j]? = some (encL ls[j], j) := Kd.zip_at (by rw [List.getElem?_map, List.getElem?_eq_getElem hj]; rfl)
    obtain ⟨v, hv, hR⟩ := hr j _ hz
    have hs : (inner.drop (j * 1)).take 1 = [v] := hv
    rw [Nat.mul_one, List.drop_eq_getElem_cons (by omega), List.take_succ_cons, List.take_zero] at hs
    have hin : inner[j]? = some v := by
      rw [List.getElem?_eq_getElem (by omega)]
      exact congrArg some (List.cons.inj hs).1
    have hown := Kd.own_of_R hR
    obtain ⟨hok, _⟩ := hR
    have hown' := hown
    obtain ⟨_, hw⟩ := hown
    rcases hw with ⟨hv0, hn⟩ | ⟨g, cap, cur, hv0, hb, hh, _⟩
    · exact absurd hn (by simp [encL])
    · subst hv0
      have hg := hok g (by simp [Value.ownBlock])
      refine ⟨⟨g, cap, ls[j]⟩, ?_, hin, hown', hg.1.2, hg.2⟩
      rw [List.getElem?_eq_getElem hj]
  have pick : ∃ F : Nat → El, ∀ j, j < ls.length → some (F j).p = ls[j]? ∧ inner[j]? = some (encE (F j)) ∧ LineAt W base (F j) ∧ some (F j).g ≠ (Value.slice A n c).ownBlock ∧ f (F j).g = j := by
    refine ⟨fun j => if hj : j < ls.length then Classical.choose (each j hj) else default, fun j hj => ?_⟩
    simp only [dif_pos hj]
    exact Classical.choose_spec (each j hj)
  obtain ⟨F, hF⟩ := pick
  have hlen : ((List.range ls.length).map F).length = ls.length := by simp
  refine ⟨(List.range ls.length).map F, ?_, ?_, ?_, ?_⟩
  · apply List.ext_getElem?
    intro j
    rcases Nat.lt_or_ge j ls.length with hj | hj
    · rw [List.getElem?_map, List.getElem?_map, List.getElem?_range hj]
      exact (hF j hj).1
    · rw [List.getElem?_eq_none (by simp; omega), List.getElem?_eq_none (by omega)]
  · have hi : inner = encs encE ((List.range ls.length).map F) := by
      apply List.ext_getElem?
      intro j
      rcases Nat.lt_or_ge j ls.length with hj | hj
      · unfold encs
        rw [List.getElem?_map, List.getElem?_map, List.getElem?_range hj]
        exact (hF j hj).2.1
      · rw [List.getElem?_eq_none (by omega), List.getElem?_eq_none (by rw [encs_length, hlen]; omega)]
    rw [hi] at ho
    refine Kd.R_of_own ?_ h0
    rw [hlen]
    exact ho
  · intro x hx
    obtain ⟨j, hj, rfl⟩ := List.mem_map.1 hx
    have := hF j (List.mem_range.1 hj)
    exact ⟨this.2.2.1, this.2.2.2.1⟩
  · rw [List.map_map]
    refine List.pairwise_map.2 ?_
    refine (List.nodup_range (n := ls.length)).imp_of_mem ?_
    intro i j hi hj hne he
    have h1 := (hF i (List.mem_range.1 hi)).2.2.2.2
    have h2 := (hF j (List.mem_range.1 hj)).2.2.2.2
    exact hne (h1.symm.trans ((congrArg f he).trans h2))
theorem from_els {W : World} {base n c : Nat} {A : Option Addr} {ok : Nat → Prop} {els : List El} (h : kdE.R 35 W base ok (.slice A n c) els) (hx : ∀ x ∈ els, LineAt W base x ∧ some x.g ≠ (Value.slice A n c).ownBlock) (hd : (els.map El.g).Nodup) :
    Kd.S (Kd.slice 3 (Kd.int .i64)) 35 W base (fun _ => True) (.slice A n c) ((els.map El.p).map encL) := by
  have ho := Kd.own_of_R h
  have hf : ∃ f : Nat → Nat, ∀ j (hj : j < els.length), f els[j].g = j := by
    refine ⟨fun k => if hk : ∃ j, j < els.length ∧ (els.map El.g)[j]? = some k then Classical.choose hk else 0, fun j hj => ?_⟩
    have hk : ∃ i, i < els.length ∧ (els.map El.g)[i]? = some els[j].g := ⟨j, hj, by rw [List.getElem?_map, List.getElem?_eq_getElem hj]; rfl⟩
    simp only [dif_pos hk]
    have h2 := Classical.choose_spec hk
    refine (List.getElem?_inj (by rw [List.length_map]; exact h2.1) hd).1 ?_
    rw [h2.2, List.getElem?_map, List.getElem?_eq_getElem hj]
    rfl
  obtain ⟨f, hf⟩ := hf
  refine ⟨f, fun _ _ => trivial, encs encE els, ?_, ?_, ?_⟩
  · rw [List.length_zipIdx, List.length_map, List.length_map]
    exact ho
  · rw [List.length_zipIdx, List.length_map, List.length_map, encs_length]
    exact (Nat.mul_one _).symm
  · intro j p hp
    have hj : j < els.length := by
      have := (List.getElem?_eq_some_iff.1 hp).1
      rw [List.length_zipIdx, List.length_map, List.length_map] at this
      exact this
    have hz : ((els.map El.p).map encL).zipIdx[j]? = some (encL els[j].p, j) := Kd.zip_at (by rw [List.getElem?_map, List.getElem?_map, List.getElem?_eq_getElem hj]; rfl)
    obtain rfl := Option.some.inj (hz.symm.trans hp)
    have hc : ((encs encE els).drop (j * 1)).take 1 = [encE els[j]] := by
      rw [Nat.mul_one, List.drop_eq_getElem_cons (by rw [encs_length]; exact hj), List.take_succ_cons, List.take_zero]
      unfold encs
      rw [List.getElem_map]
    have hm := hx els[j] (List.getElem_mem hj)
    refine ⟨encE els[j], hc, ?_⟩
    refine Kd.R_of_own (enc := Value.int .i64) hm.1 ?_
    intro k hk
    have : els[j].g = k := by simpa [encE, Value.ownBlock] using hk
    subst this
    exact ⟨⟨trivial, hm.2⟩, hf j hj⟩
end Go.Proofs.Ythlnpbdjblocfaa.P

namespace Go.Proofs.Ythlnpbdjblocfaa.P
open Go.RowKit Go.Proofs.Ythlnpbdjblocfaa.Srt Go.Proofs.YthlnpbdjblocfaaW.PrintWords Go.Proofs.YthlnpbdjblocfaaW.PrintLast Go.Proofs.YthlnpbdjblocfaaW.PrintMore Go.Proofs.Ythlnpbdjblocfaa.Pure
set_option linter.unusedVariables false
set_option linter.unusedSimpArgs false
set_option maxHeartbeats 4000000 in
set_option maxRecDepth 100000 in
theorem cost_zero (ds cr : List Int) (A0 A1 : Option Addr) (c0 c1 B2 B3 g c k : Nat) (W : World) (h2 : W.cell? ⟨B2, 0, none⟩ = some (.slice A0 ds.length c0)) (h3 : W.cell? ⟨B3, 0, none⟩ = some (.slice A1 cr.length c1))
    (l0 : W.cell? ⟨g, 0, none⟩ = some (.int .i64 0)) (l1 : W.cell? ⟨g, 1, none⟩ = some (.int .i64 (k : Int))) (hC : Kd.C (Kd.int .i64) W A0 ds.length ds) (hk : k < ds.length) (hm : k ≤ 1000) :
    Calls Try.prog 50 #[.slice (some ⟨g, 0, none⟩) 2 c, .pointer (some ⟨B2, 0, none⟩), .pointer (some ⟨B3, 0, none⟩)] W fun e W' => e = .returned (.int .i64 (rd ds (k : Int))) ∧ Below W.heap.size W W' := by
  obtain ⟨ad, e, hx⟩ := Kd.at_int hC (k : Int) (by omega) (by omega)
  subst e
  rw [Int.toNat_natCast] at hx
  obtain ⟨ad', e', hxa⟩ := Kd.at_int (Kd.C_alloc hC (Obj.cells #[.slice (some ad) ds.length c0, .slice A1 cr.length c1] 35)) (k : Int) (by omega) (by omega)
  cases e'
  rw [Int.toNat_natCast] at hxa
  have l0a := (Below.cell (below_alloc (Below.refl W.heap.size W) (Obj.cells #[.slice (some ad) ds.length c0, .slice A1 cr.length c1] 35)) (World.block_lt_of_cell? W _ l0)).trans l0
  have l1a := (Below.cell (below_alloc (Below.refl W.heap.size W) (Obj.cells #[.slice (some ad) ds.length c0, .slice A1 cr.length c1] 35)) (World.block_lt_of_cell? W _ l1)).trans l1
  have HB := Aside0.mk (Below.refl W.heap.size W)
  have p0 : (0 : Int) ≤ (k : Int) := by omega
  have p1 : (k : Int) < (ds.length : Int) := by omega
  have p2 : k < ds.length := hk
  clear hC hk hm
  go_enter Try.func50, Try.ntmps50
  go_wp2
  go_region
  all_goals go_wp2
  all_goals go_ret
  all_goals exact ⟨rfl, by repeat (first | (with_reducible first | exact HB.out | apply below_alloc | apply pw_below_drewN | apply below_drew1) | exact HB.out)⟩
set_option maxHeartbeats 4000000 in
set_option maxRecDepth 100000 in
theorem cost_one (ds cr : List Int) (A0 A1 : Option Addr) (c0 c1 B2 B3 g c k : Nat) (W : World) (h2 : W.cell? ⟨B2, 0, none⟩ = some (.slice A0 ds.length c0)) (h3 : W.cell? ⟨B3, 0, none⟩ = some (.slice A1 cr.length c1))
    (l0 : W.cell? ⟨g, 0, none⟩ = some (.int .i64 1)) (l1 : W.cell? ⟨g, 1, none⟩ = some (.int .i64 (k : Int))) (hC : Kd.C (Kd.int .i64) W A1 cr.length cr) (hk : k < cr.length) (hm : k ≤ 1000) :
    Calls Try.prog 50 #[.slice (some ⟨g, 0, none⟩) 2 c, .pointer (some ⟨B2, 0, none⟩), .pointer (some ⟨B3, 0, none⟩)] W fun e W' => e = .returned (.int .i64 (rd cr (k : Int))) ∧ Below W.heap.size W W' := by
  obtain ⟨ad, e, hx⟩ := Kd.at_int hC (k : Int) (by omega) (by omega)
  subst e
  rw [Int.toNat_natCast] at hx
  obtain ⟨ad', e', hxa⟩ := Kd.at_int (Kd.C_alloc hC (Obj.cells #[.slice A0 ds.length c0, .slice (some ad) cr.length c1] 35)) (k : Int) (by omega) (by omega)
  cases e'
  rw [Int.toNat_natCast] at hxa
  have l0a := (Below.cell (below_alloc (Below.refl W.heap.size W) (Obj.cells #[.slice A0 ds.length c0, .slice (some ad) cr.length c1] 35)) (World.block_lt_of_cell? W _ l0)).trans l0
  have l1a := (Below.cell (below_alloc (Below.refl W.heap.size W) (Obj.cells #[.slice A0 ds.length c0, .slice (some ad) cr.length c1] 35)) (World.block_lt_of_cell? W _ l1)).trans l1
  have HB := Aside0.mk (Below.refl W.heap.size W)
  have p0 : (0 : Int) ≤ (k : Int) := by omega
  have p1 : (k : Int) < (cr.length : Int) := by omega
  have p2 : k < cr.length := hk
  clear hC hk hm
  go_enter Try.func50, Try.ntmps50
  go_wp2
  go_region
  all_goals go_wp2
  all_goals go_ret
  all_goals exact ⟨rfl, by repeat (first | (with_reducible first | exact HB.out | apply below_alloc | apply pw_below_drewN | apply below_drew1) | exact HB.out)⟩
/-- A line that the sort moves: its block says what it is, and is not the sorted row's. -/
def LnOk (W : World) (base g : Nat) (ds cr : List Int) (x : El) : Prop := LineAt W base x ∧ x.g ≠ g ∧ x.p ∈ linesL ds cr
theorem lines_bound {ds cr : List Int} {p : Ln} (h : p ∈ linesL ds cr) : (p.1 = 0 ∧ p.2 < ds.length) ∨ (p.1 = 1 ∧ p.2 < cr.length) := by
  unfold linesL at h
  rcases List.mem_append.1 h with h | h
  · obtain ⟨k, hk, rfl⟩ := List.mem_map.1 h
    exact .inl ⟨rfl, List.mem_range.1 hk⟩
  · obtain ⟨k, hk, rfl⟩ := List.mem_map.1 h
    exact .inr ⟨rfl, List.mem_range.1 hk⟩
theorem cost_calls (ds cr : List Int) (A0 A1 : Option Addr) (c0 c1 B2 B3 g base : Nat) (W0 : World) (n2 : B2 ≠ g) (n3 : B3 ≠ g) (h2 : W0.cell? ⟨B2, 0, none⟩ = some (.slice A0 ds.length c0)) (h3 : W0.cell? ⟨B3, 0, none⟩ = some (.slice A1 cr.length c1))
    (hC0 : ∀ W', Kept W0 W' (fun k => k = g) → Kd.C (Kd.int .i64) W' A0 ds.length ds) (hC1 : ∀ W', Kept W0 W' (fun k => k = g) → Kd.C (Kd.int .i64) W' A1 cr.length cr) (hl0 : ds.length ≤ 1000) (hl1 : cr.length ≤ 1000)
    (W : World) (hk : KepB W0 W (fun k => k = g)) (x : El) (hx : LnOk W0 base g ds cr x) :
    Calls Try.prog 50 #[encE x, .pointer (some ⟨B2, 0, none⟩), .pointer (some ⟨B3, 0, none⟩)] W fun e W' => e = .returned (.int .i64 (costL ds cr x.p)) ∧ Below W.heap.size W W' := by
  obtain ⟨hL, hg, hp⟩ := hx
  have hL' : LineAt W base x := line_move hL (hk.kept.2 _ (line_lt hL) hg)
  obtain ⟨l0, l1⟩ := line_cells hL'
  have h2' := cell_kept h2 hk.kept n2
  have h3' := cell_kept h3 hk.kept n3
  unfold costL
  rcases lines_bound hp with ⟨e, hlt⟩ | ⟨e, hlt⟩
  · rw [if_pos e]
    rw [e] at l0
    exact cost_zero ds cr A0 A1 c0 c1 B2 B3 x.g x.c x.p.2 W h2' h3' l0 l1 (hC0 W hk.kept) hlt (by omega)
  · rw [if_neg (by omega)]
    rw [e] at l0
    exact cost_one ds cr A0 A1 c0 c1 B2 B3 x.g x.c x.p.2 W h2' h3' l0 l1 (hC1 W hk.kept) hlt (by omega)
set_option maxHeartbeats 4000000 in
set_option maxRecDepth 100000 in
theorem cmp_ok (ds cr : List Int) (A0 A1 : Option Addr) (c0 c1 B2 B3 Bc g base : Nat) (W0 : World) (n2 : B2 ≠ g) (n3 : B3 ≠ g) (nc : Bc ≠ g) (h2 : W0.cell? ⟨B2, 0, none⟩ = some (.slice A0 ds.length c0)) (h3 : W0.cell? ⟨B3, 0, none⟩ = some (.slice A1 cr.length c1))
    (hc : W0.cell? ⟨Bc, 0, none⟩ = some (.func (.func 50) #[] #[.pointer (some ⟨B2, 0, none⟩), .pointer (some ⟨B3, 0, none⟩)]))
    (hC0 : ∀ W', Kept W0 W' (fun k => k = g) → Kd.C (Kd.int .i64) W' A0 ds.length ds) (hC1 : ∀ W', Kept W0 W' (fun k => k = g) → Kd.C (Kd.int .i64) W' A1 cr.length cr) (hl0 : ds.length ≤ 1000) (hl1 : cr.length ≤ 1000)
    (hd : ∀ p ∈ linesL ds cr, 0 ≤ costL ds cr p ∧ costL ds cr p ≤ 100) :
    CmpOk g #[.pointer (some ⟨Bc, 0, none⟩)] (LnOk W0 base g ds cr) (fun x y => ltL ds cr x.p y.p) W0 := by
  intro W hk x y hx hy
  have HX := Aside0.mk (fun W' (h : KepB W0 W' (fun k => k = g)) => cost_calls ds cr A0 A1 c0 c1 B2 B3 g base W0 n2 n3 h2 h3 hC0 hC1 hl0 hl1 W' h x hx)
  have HY := Aside0.mk (fun W' (h : KepB W0 W' (fun k => k = g)) => cost_calls ds cr A0 A1 c0 c1 B2 B3 g base W0 n2 n3 h2 h3 hC0 hC1 hl0 hl1 W' h y hy)
  have HT := Aside0.mk (fun W' (h : KepB W0 W' (fun k => k = g)) => cell_kept hc h.kept nc)
  have bx := hd _ hx.2.2
  have by_ := hd _ hy.2.2
  unfold ltL
  dsimp only
  obtain ⟨⟨xg, xc, xp⟩, hxe⟩ : ∃ z, x = z := ⟨_, rfl⟩
  obtain ⟨⟨yg, yc, yp⟩, hye⟩ : ∃ z, y = z := ⟨_, rfl⟩
  obtain ⟨cx, hcx⟩ : ∃ z, costL ds cr x.p = z := ⟨_, rfl⟩
  obtain ⟨cy, hcy⟩ : ∃ z, costL ds cr y.p = z := ⟨_, rfl⟩
  rw [hcx] at bx HX
  rw [hcy] at by_ HY
  rw [hcx, hcy]
  rw [hxe] at HX
  rw [hye] at HY
  rw [hxe, hye]
  have w0_ := Aside0.mk (show wrap64 (cy - cx) = cy - cx from w64 (by omega) (by omega))
  have HK := Aside0.mk hk
  have HB := Aside0.mk (Below.refl W.heap.size W)
  have tc := HT.out W hk
  clear hk hx hy hxe hye hcx hcy bx by_ hC0 hC1 hd h2 h3 hc
  show Calls Try.prog 52 #[.slice (some ⟨xg, 0, none⟩) 2 xc, .slice (some ⟨yg, 0, none⟩) 2 yc, .pointer (some ⟨Bc, 0, none⟩)] W _
  have hw0 := w0_.out
  have hw0W := (i64_w _).trans hw0
  go_enter Try.func52, Try.ntmps52
  go_wp2
  go_region_held3 (fun w' => w'.cell? ⟨Bc, 0, none⟩ = some (.func (.func 50) #[] #[.pointer (some ⟨B2, 0, none⟩), .pointer (some ⟨B3, 0, none⟩)])) (first | exact tc | exact HT.out _ HK.out) (first | (go_at_call 50; refine (HY.out _ ?hk_).mono ?_; (case hk_ => first | exact HK.out | exact KepB.drew HK.out); rintro e w5 ⟨rfl, hb⟩; have n0_ := Aside0.mk (KepB.below (by first | exact HK.out | exact KepB.drew HK.out) hb); have n1_ := Aside0.mk (below_step (by repeat (first | (with_reducible first | exact HB.out | apply below_alloc | apply pw_below_drewN | apply below_drew1) | exact HB.out)) hb); clear HK HB HY; have HK := n0_; have HB := n1_; clear n0_ n1_ hb) | (go_at_call 50; refine (HX.out _ ?hk_).mono ?_; (case hk_ => first | exact HK.out | exact KepB.drew HK.out); rintro e w6 ⟨rfl, hb⟩; have n0_ := Aside0.mk (KepB.below (by first | exact HK.out | exact KepB.drew HK.out) hb); have n1_ := Aside0.mk (below_step (by repeat (first | (with_reducible first | exact HB.out | apply below_alloc | apply pw_below_drewN | apply below_drew1) | exact HB.out)) hb); clear HK HB HX; have HK := n0_; have HB := n1_; clear n0_ n1_ hb))
  go_wp2
  go_ret
  refine ⟨cy - cx, rfl, ?_, HB.out⟩
  by_cases h : cy < cx
  · rw [decide_eq_true h, decide_eq_true (by omega)]
  · rw [decide_eq_false h, decide_eq_false (by omega)]
end Go.Proofs.Ythlnpbdjblocfaa.P

namespace Go.Proofs.Ythlnpbdjblocfaa.P
open Go.RowKit Go.Proofs.Ythlnpbdjblocfaa.Srt Go.Proofs.YthlnpbdjblocfaaW.PrintWords Go.Proofs.YthlnpbdjblocfaaW.PrintLast Go.Proofs.YthlnpbdjblocfaaW.PrintMore Go.Proofs.Ythlnpbdjblocfaa.Pure
set_option linter.unusedVariables false
set_option linter.unusedSimpArgs false
/-- The blocks that are only read, and the rows laid so far. -/
structure Lp (w : World) (qs : List (Nat × Obj)) (W : World) (v : Value) (ls : List Ln) : Prop where
  below : Below w.heap.size w W
  keeps : ∀ q ∈ qs, W.heap[q.1]? = some q.2
  row : Kd.S (Kd.slice 3 (Kd.int .i64)) 35 W w.heap.size (fun k => ∀ q ∈ qs, k ≠ q.1) v (ls.map encL)
  at_ : ∃ g c, v = .slice (some ⟨g, 0, none⟩) ls.length c
section
variable {w W W' : World} {qs : List (Nat × Obj)} {v : Value} {ls : List Ln}
theorem Lp.step (h : Lp w qs W v ls) (hb : Below W.heap.size W W') : Lp w qs W' v ls :=
  ⟨below_step h.below hb, fun q hq => blk_below (h.keeps q hq) hb, Kd.S_below h.row hb, h.at_⟩
theorem Lp.own (h : Lp w qs W v ls) (k : Nat) (hk : v.ownBlock = some k) : (∀ q ∈ qs, k ≠ q.1) ∧ w.heap.size ≤ k ∧ k < W.heap.size := by
  have h1 := (Kd.R_bound (Kd.S_R h.row)).1 k hk
  exact ⟨h1.1, h1.2.1, h1.2.2.1⟩
theorem Lp.more (h : Lp w qs W v ls) {g : Nat} {ob : Obj} (hg : g = W.heap.size) (hn : W'.heap[g]? = some ob) (hb : Below W.heap.size W W') : Lp w ((g, ob) :: qs) W' v ls := by
  refine ⟨below_step h.below hb, fun q hq => ?_, ?_, h.at_⟩
  · rcases List.mem_cons.1 hq with e | hq
    · rw [e]; exact hn
    · exact blk_below (h.keeps q hq) hb
  · refine Kd.S_mono (Kd.S_below (Kd.S_bound h.row) hb) ?_
    rintro k ⟨h1, _, h2, _⟩ q hq
    rcases List.mem_cons.1 hq with e | hq
    · rw [e]
      show k ≠ g
      omega
    · exact h1 q hq
theorem Lp.empty (hb : Below w.heap.size w W) (hq : ∀ q ∈ qs, W.heap[q.1]? = some q.2) {g : Nat} (hg : g = W.heap.size) (hn : W'.heap[g]? = some (.cells #[] 35 (0, 0))) (hbw : Below W.heap.size W W') :
    Lp w qs W' (.slice (some ⟨g, 0, none⟩) 0 0) [] := by
  refine ⟨below_step hb hbw, fun q h => blk_below (hq q h) hbw, ⟨fun _ => 0, ?_, [], ?_, Reps.none _ _⟩, g, 0, rfl⟩
  · intro k hk q h
    have : g = k := by simpa [Value.ownBlock] using hk
    subst this
    have := blk_lt (hq q h)
    omega
  · exact ⟨rfl, .inr ⟨g, 0, #[], rfl, by have := below_size hb; omega, hn, Nat.le_refl _, Nat.zero_le _, rfl, rfl⟩⟩
variable {ops : Array Oper} {rest : List Oper} {o : Oper} {a : Act} {Q : Exit → Act → World → Prop}
theorem lit_event {P : Program} (hgd : o.guard = none) {N : Tmp} (_hd : o.dst = some N) {cs : Array Value} {t n : Nat}
    (hrun : (execOp a.eval o).run P W = .ok (.value (.slice (some ⟨W.heap.size, 0, none⟩) n n)) (W.alloc (.cells cs t (0, 0))))
    (h : ∀ g, g = W.heap.size → ∀ w1, w1.heap[g]? = some (.cells cs t (0, 0)) → Below W.heap.size W w1 → wpList P ops Q rest (a.put o.dst (.slice (some ⟨g, 0, none⟩) n n)) w1) : wpList P ops Q (o :: rest) a W :=
  Kd.event_run hgd hrun (h _ rfl _ (blk_new W _) (below_alloc (Below.refl _ _) _))
/-- A line is laid behind the others. -/
theorem lines_append (hgd : o.guard = none) (s x : Operand) (ho : o.op = .call { callee := .builtin .append, args := #[s, x], argTypes := #[39, 39] }) {W0 : World} (HL0 : Lp w qs W0 v ls) (p : Ln) {gn : Nat} (hg0 : gn = W0.heap.size) (hb0 : Below W0.heap.size W0 W)
    (hgn : W.heap[gn]? = some (.cells #[.int .i64 (p.1 : Int), .int .i64 (p.2 : Int)] 3 (0, 0)))
    (hs : a.eval s = v) (hx : a.eval x = .slice (some ⟨W.heap.size, 0, none⟩) 1 1) (hl : ls.length ≤ 1000)
    (h : ∀ v1 w1, Lp w qs w1 v1 (ls ++ [p]) → wpList Try.prog ops Q rest (a.put o.dst v1) w1) : wpList Try.prog ops Q (o :: rest) a (W.alloc (.cells #[.slice (some ⟨gn, 0, none⟩) 2 2] 35)) := by
  have HL := HL0.step hb0
  have n2 : ∀ q ∈ qs, gn ≠ q.1 := fun q hq => by
    have := blk_lt (HL0.keeps q hq)
    omega
  have nv : some gn ≠ v.ownBlock := fun e => by
    have := (HL0.own gn e.symm).2.2
    omega
  have hw : w.heap.size ≤ gn := by
    have := below_size HL0.below
    omega
  have hM : (Kd.slice 3 (Kd.int .i64)).M W w.heap.size (fun k => k = gn) (encL p) [.slice (some ⟨gn, 0, none⟩) 2 2] := by
    refine ⟨_, rfl, Kd.R_of_own (enc := Value.int .i64) ?_ ?_⟩
    · exact ⟨rfl, .inr ⟨gn, 2, _, rfl, hw, hgn, Nat.le_refl _, by decide, rfl, rfl⟩⟩
    · intro k hk
      have : gn = k := by simpa [Value.ownBlock] using hk
      exact this.symm
  refine Kd.S_append (Kd.slice 3 (Kd.int .i64)) (w0 := w) w.heap.size hgd s x 39 35 (.slice none 0 0) 24 ho Try.underlying39 info35 rfl (by decide) (by omega) v (ls.map encL) (encL p) [.slice (some ⟨gn, 0, none⟩) 2 2] (fun k => ∀ q ∈ qs, k ≠ q.1) (fun k => k = gn) hs hx hM ?_ ?_ ?_ HL.below (below_size HL.below) (by rw [List.length_map]; omega) ?_
  · rintro k rfl
    exact ⟨n2, nv⟩
  · intro k hk q hq
    have h1 := blk_lt (HL.keeps q hq)
    omega
  · refine Kd.S_mono (Kd.S_below (Kd.S_bound HL0.row) hb0) ?_
    rintro k ⟨h1, _, h2, _⟩
    exact ⟨h1, fun e => by omega⟩
  · intro v1 w1 hS hb hg hat
    refine h v1 w1 ⟨hb, fun q hq => ?_, ?_, ?_⟩
    · exact (hg.block q.1 (blk_lt (HL.keeps q hq)) (fun e => (HL.own q.1 e.symm).1 q hq rfl)).trans (HL.keeps q hq)
    · rw [List.map_append]
      exact hS
    · obtain ⟨ad, c, e⟩ := Kd.R_slice1 (Kd.S_R hS) (by simp)
      subst e
      obtain ⟨g, rfl⟩ := Kd.R_head (Kd.S_R hS)
      refine ⟨g, c, ?_⟩
      rw [List.length_append, List.length_map, List.length_append]
      rfl
end
theorem line_kept {W W' : World} {g : Nat} {base : Nat} {x : El} (hk : Kept W W' (fun k => k = g)) (h : LineAt W base x) (hg : x.g ≠ g) : LineAt W' base x := line_move h (hk.2 _ (line_lt h) hg)
/-- The sort: the lines in the reference's order. -/
theorem lines_sort {w W : World} {l0 l1 : List Int} {A0 A1 : Option Addr} {c0 c1 g2 g3 : Nat} {qs : List (Nat × Obj)} {v : Value} (h : Lp w qs W v (linesL l0 l1)) (m2 : (g2, Obj.cells #[.slice A0 l0.length c0] 35 (0, 0)) ∈ qs) (m3 : (g3, Obj.cells #[.slice A1 l1.length c1] 35 (0, 0)) ∈ qs)
    (hr0 : Kd.C (Kd.int .i64) w A0 l0.length l0) (hr1 : Kd.C (Kd.int .i64) w A1 l1.length l1) (hl0 : l0.length ≤ 11) (hl1 : l1.length ≤ 11) (hd : ∀ p ∈ linesL l0 l1, 0 ≤ costL l0 l1 p ∧ costL l0 l1 p ≤ 100) :
    Calls Try.prog 51 #[v, .func (.func 52) #[] #[.pointer (some ⟨W.heap.size, 0, none⟩)]] (W.alloc (.cells #[.func (.func 50) #[] #[.pointer (some ⟨g2, 0, none⟩), .pointer (some ⟨g3, 0, none⟩)]] 64)) fun e W' => e = .returned (.tuple #[]) ∧ Kd.S (Kd.slice 3 (Kd.int .i64)) 35 W' w.heap.size (fun _ => True) v ((ordL l0 l1).map encL) ∧ Below w.heap.size w W' := by
  obtain ⟨W0, hW0⟩ : ∃ W0, W.alloc (.cells #[.func (.func 50) #[] #[.pointer (some ⟨g2, 0, none⟩), .pointer (some ⟨g3, 0, none⟩)]] 64) = W0 := ⟨_, rfl⟩
  have hbw : Below W.heap.size W W0 := by rw [← hW0]; exact below_alloc (Below.refl _ _) _
  have hnew : W0.heap[W.heap.size]? = some (.cells #[.func (.func 50) #[] #[.pointer (some ⟨g2, 0, none⟩), .pointer (some ⟨g3, 0, none⟩)]] 64 (0, 0)) := by rw [← hW0]; exact blk_new W _
  rw [hW0]
  have H0 := h.step hbw
  obtain ⟨g, c, hv⟩ := h.at_
  subst hv
  have hown := h.own g (by simp [Value.ownBlock])
  obtain ⟨els, hep, hR, hel, hnd⟩ := to_els H0.row
  have hlen : els.length = (linesL l0 l1).length := by rw [← hep, List.length_map]
  have hL : (linesL l0 l1).length ≤ 39 := by rw [lines_len]; omega
  have hgs : w.heap.size ≤ g := hown.2.1
  have hkc : ∀ (A : Option Addr) (l : List Int), Kd.C (Kd.int .i64) w A l.length l → ∀ W', Kept W0 W' (fun k => k = g) → Kd.C (Kd.int .i64) W' A l.length l := by
    intro A l hC W' hk
    exact Kd.C_kept_came (Kd.heap_int .i64) hC H0.below (fun k hk => by rw [hk]; exact hgs) W' hk
  have hC := cmp_ok l0 l1 A0 A1 c0 c1 g2 g3 W.heap.size g w.heap.size W0 (fun e => hown.1 _ m2 e.symm) (fun e => hown.1 _ m3 e.symm) (by omega) ((blk_cell (H0.keeps _ m2) 0).trans rfl) ((blk_cell (H0.keeps _ m3) 0).trans rfl) ((blk_cell hnew 0).trans rfl) (hkc A0 l0 hr0) (hkc A1 l1 hr1) (by omega) (by omega) hd
  have hokE : ∀ x ∈ els, LnOk W0 w.heap.size g l0 l1 x := fun x hx => ⟨(hel x hx).1, fun e => (hel x hx).2 (by simp [Value.ownBlock, e]), by rw [← hep]; exact List.mem_map_of_mem hx⟩
  refine (sortStable_calls g _ c w.heap.size _ W.heap.size _ _ W0 W0 els hL hlen hokE hC hR (KepB.refl _ _)).mono ?_
  rintro e W' ⟨rfl, hR', hk'⟩
  have hag : els.Pairwise (Agree (fun x y : El => ltL l0 l1 x.p y.p) (fun x y : El => TL l0 l1 x.p y.p)) := by
    have h1 := lines_agree (ds := l0) (cr := l1)
    rw [← hep, List.pairwise_map] at h1
    exact h1
  obtain ⟨hp, hs⟩ := stab_ok (fun x y : El => ltL l0 l1 x.p y.p) (T := fun x y : El => TL l0 l1 x.p y.p) (fun x y z h1 h2 => TL_trans _ _ _ h1 h2) els (by omega) hag
  have hord : (stab (fun x y : El => ltL l0 l1 x.p y.p) els).map El.p = ordL l0 l1 := by
    refine sorted_same TL_asym _ _ (fun q => ?_) (List.pairwise_map.2 hs) ord_sorted
    rw [ord_mem hd, ← hep]
    exact (hp.map El.p).mem_iff
  refine ⟨rfl, ?_, ?_⟩
  · have := from_els hR' (fun x hx => ?_) ((hp.map El.g).nodup_iff.2 hnd)
    · rw [hord] at this
      exact this
    · have hx' := hel x (hp.mem_iff.1 hx)
      exact ⟨line_kept hk'.kept hx'.1 (fun e => hx'.2 (by simp [Value.ownBlock, e])), hx'.2⟩
  · refine H0.below.trans ⟨hk'.os, hk'.tape, hk'.output, hk'.kept.1, fun k hk => hk'.kept.2 k ?_ (by omega)⟩
    have := below_size H0.below
    omega
end Go.Proofs.Ythlnpbdjblocfaa.P

namespace Go.Proofs.Ythlnpbdjblocfaa.P
open Go.RowKit Go.Proofs.Ythlnpbdjblocfaa.Srt Go.Proofs.YthlnpbdjblocfaaW.PrintWords Go.Proofs.YthlnpbdjblocfaaW.PrintLast Go.Proofs.YthlnpbdjblocfaaW.PrintMore Go.Proofs.Ythlnpbdjblocfaa.Pure
set_option linter.unusedVariables false
set_option linter.unusedSimpArgs false
def impl_OrderByLines.f (l0 : List Int) (l1 : List Int) : Option ((List (List Int)) × Bool) := (impl_areLines.f l0).bind fun t => if t = true then (impl_areLines.f l1).bind fun u => (if u = true then some ((ordL l0 l1).map encL, true) else some ([], false)) else some ([], false)
theorem are_lines {l : List Int} (h : impl_areLines.f l = some true) : l.length ≤ 11 ∧ ∀ x ∈ l, 0 ≤ x ∧ x ≤ 100 := by
  unfold impl_areLines.f impl_areWithin.f at h
  by_cases c : (l.length : Int) < 12
  · rw [if_pos c] at h
    have h2 : (l.all fun x => decide (0 ≤ x ∧ x ≤ 100)) = true := Option.some.inj h
    refine ⟨by omega, fun x hx => ?_⟩
    exact of_decide_eq_true (List.all_eq_true.1 h2 x hx)
  · rw [if_neg c] at h
    cases h
theorem cost_bound {l0 l1 : List Int} (h0 : ∀ x ∈ l0, 0 ≤ x ∧ x ≤ 100) (h1 : ∀ x ∈ l1, 0 ≤ x ∧ x ≤ 100) : ∀ p ∈ linesL l0 l1, 0 ≤ costL l0 l1 p ∧ costL l0 l1 p ≤ 100 := by
  intro p hp
  unfold costL
  rcases lines_bound hp with ⟨e, hlt⟩ | ⟨e, hlt⟩
  · rw [if_pos e, rd_lt l0 _ hlt]
    exact h0 _ (List.getElem_mem hlt)
  · rw [if_neg (by omega), rd_lt l1 _ hlt]
    exact h1 _ (List.getElem_mem hlt)
def wayL (way n : Nat) : List Ln := (List.range n).map (fun k => (way, k))
theorem wayL_succ (way n : Nat) : wayL way (n + 1) = wayL way n ++ [(way, n)] := by
  unfold wayL
  rw [List.range_succ, List.map_append]
  rfl
theorem wayL_len (way n : Nat) : (wayL way n).length = n := by unfold wayL; simp
theorem lp_start {w W W' : World} {g2 g3 g : Nat} {a b : Obj} (hb : Below w.heap.size w W) (h2 : W.heap[g2]? = some a) (h3 : W.heap[g3]? = some b) (hg : g = W.heap.size) (hn : W'.heap[g]? = some (.cells #[] 35 (0, 0))) (hbw : Below W.heap.size W W') : Lp w [(g2, a), (g3, b)] W' (.slice (some ⟨g, 0, none⟩) 0 0) [] := by
  refine Lp.empty hb (fun q hq => ?_) hg hn hbw
  rcases List.mem_cons.1 hq with e | hq
  · rw [e]; exact h2
  · rw [List.mem_singleton.1 hq]; exact h3
set_option maxHeartbeats 8000000 in
set_option maxRecDepth 100000 in
theorem impl_OrderByLines.calls (A0 : Option Addr) (c0 : Nat) (l0 : List Int) (A1 : Option Addr) (c1 : Nat) (l1 : List Int) (r1 : List (List Int)) (r2 : Bool) (w : World) (hr0 : Kd.C (Kd.int .i64) w A0 l0.length l0) (hc0 : l0.length ≤ c0) (hr1 : Kd.C (Kd.int .i64) w A1 l1.length l1) (hc1 : l1.length ≤ c1) (h : impl_OrderByLines.f l0 l1 = some (r1, r2)) :
    Calls Try.prog 26 #[.slice A0 l0.length c0, .slice A1 l1.length c1] w fun e w' => ∃ v0_ : Value, e = .returned (.tuple #[v0_, .bool r2]) ∧ Kd.S (Kd.slice 3 (Kd.int .i64)) 35 w' w.heap.size (fun _ => True) v0_ r1 ∧ Below w.heap.size w w' := by
  have HR0 := Aside0.mk hr0
  have HC0 := Aside0.mk hc0
  have HR1 := Aside0.mk hr1
  have HC1 := Aside0.mk hc1
  clear hr0 hc0 hr1 hc1
  have HB := Aside0.mk (Below.refl w.heap.size w)
  unfold impl_OrderByLines.f at h
  obtain ⟨t, ha0, h⟩ := Option.bind_eq_some_iff.mp h
  have HA0 := Aside0.mk ha0
  cases t with
  | false =>
    replace h : some (([] : List (List Int)), false) = some (r1, r2) := h
    simp only [Option.some.injEq, Prod.mk.injEq] at h
    obtain ⟨rfl, rfl⟩ := h
    clear ha0
    go_enter Try.func26, Try.ntmps26
    go_wp2_with (first | ((with_reducible refine gate_dst (N := 2) rfl ?_); refine box_event ?hg (N := 2) ?hd (cs := #[.slice A0 l0.length c0]) (t := 35) ?hr ?_; (case hd => rfl); (case hg => rfl); (case hr => first | (go_simp; done) | (go_simp; rfl)); intro g2 hg_ w2 hbox hb; have n0_ := Aside0.mk (below_step HB.out hb); clear HB ; have HB := n0_; clear n0_ ; have BK2 := Aside0.mk hbox; clear hbox hg_ hb) | ((with_reducible refine gate_dst (N := 3) rfl ?_); refine box_event ?hg (N := 3) ?hd (cs := #[.slice A1 l1.length c1]) (t := 35) ?hr ?_; (case hd => rfl); (case hg => rfl); (case hr => first | (go_simp; done) | (go_simp; rfl)); intro g3 hg_ w3 hbox hb; have n0_ := Aside0.mk (below_step HB.out hb); have n2_ := Aside0.mk (blk_below BK2.out hb); clear HB BK2; have HB := n0_; have BK2 := n2_; clear n0_ n2_; have BK3 := Aside0.mk hbox; clear hbox hg_ hb; have hc_2_w3 : w3.cell? ⟨g2, 0, none⟩ = some (.slice A0 l0.length c0) := (blk_cell BK2.out 0).trans rfl; have hc_3_w3 : w3.cell? ⟨g3, 0, none⟩ = some (.slice A1 l1.length c1) := (blk_cell BK3.out 0).trans rfl) | ((have tk_ := HA0); clear tk_; go_at_call 49; refine (impl_areLines.calls _ _ l0 _ _ (Kd.C_below HR0.out (by repeat (first | (with_reducible first | exact HB.out | apply below_alloc | apply pw_below_drewN | apply below_drew1) | exact HB.out))) HC0.out HA0.out).mono ?_; rintro e w4 ⟨rfl, hb⟩; clear HA0; have n0_ := Aside0.mk (below_step HB.out hb); have n2_ := Aside0.mk (blk_below BK2.out hb); have n3_ := Aside0.mk (blk_below BK3.out hb); clear HB BK2 BK3; have HB := n0_; have BK2 := n2_; have BK3 := n3_; clear n0_ n2_ n3_; have hc_2_w4 : w4.cell? ⟨g2, 0, none⟩ = some (.slice A0 l0.length c0) := (blk_cell BK2.out 0).trans rfl; have hc_3_w4 : w4.cell? ⟨g3, 0, none⟩ = some (.slice A1 l1.length c1) := (blk_cell BK3.out 0).trans rfl; clear hb))
    go_ret2
    exact ⟨_, rfl, Kd.S_nil _ _ _ _ _, HB.out⟩
  | true =>
    replace h : ((impl_areLines.f l1).bind fun u => (if u = true then some ((ordL l0 l1).map encL, true) else some (([] : List (List Int)), false))) = some (r1, r2) := h
    obtain ⟨u, ha1, h⟩ := Option.bind_eq_some_iff.mp h
    have HA1 := Aside0.mk ha1
    cases u with
    | false =>
      replace h : some (([] : List (List Int)), false) = some (r1, r2) := h
      simp only [Option.some.injEq, Prod.mk.injEq] at h
      obtain ⟨rfl, rfl⟩ := h
      clear ha0 ha1
      go_enter Try.func26, Try.ntmps26
      go_wp2_with (first | ((with_reducible refine gate_dst (N := 2) rfl ?_); refine box_event ?hg (N := 2) ?hd (cs := #[.slice A0 l0.length c0]) (t := 35) ?hr ?_; (case hd => rfl); (case hg => rfl); (case hr => first | (go_simp; done) | (go_simp; rfl)); intro g2 hg_ w2 hbox hb; have n0_ := Aside0.mk (below_step HB.out hb); clear HB ; have HB := n0_; clear n0_ ; have BK2 := Aside0.mk hbox; clear hbox hg_ hb) | ((with_reducible refine gate_dst (N := 3) rfl ?_); refine box_event ?hg (N := 3) ?hd (cs := #[.slice A1 l1.length c1]) (t := 35) ?hr ?_; (case hd => rfl); (case hg => rfl); (case hr => first | (go_simp; done) | (go_simp; rfl)); intro g3 hg_ w3 hbox hb; have n0_ := Aside0.mk (below_step HB.out hb); have n2_ := Aside0.mk (blk_below BK2.out hb); clear HB BK2; have HB := n0_; have BK2 := n2_; clear n0_ n2_; have BK3 := Aside0.mk hbox; clear hbox hg_ hb; have hc_2_w3 : w3.cell? ⟨g2, 0, none⟩ = some (.slice A0 l0.length c0) := (blk_cell BK2.out 0).trans rfl; have hc_3_w3 : w3.cell? ⟨g3, 0, none⟩ = some (.slice A1 l1.length c1) := (blk_cell BK3.out 0).trans rfl) | ((have tk_ := HA0); clear tk_; go_at_call 49; refine (impl_areLines.calls _ _ l0 _ _ (Kd.C_below HR0.out (by repeat (first | (with_reducible first | exact HB.out | apply below_alloc | apply pw_below_drewN | apply below_drew1) | exact HB.out))) HC0.out HA0.out).mono ?_; rintro e w4 ⟨rfl, hb⟩; clear HA0; have n0_ := Aside0.mk (below_step HB.out hb); have n2_ := Aside0.mk (blk_below BK2.out hb); have n3_ := Aside0.mk (blk_below BK3.out hb); clear HB BK2 BK3; have HB := n0_; have BK2 := n2_; have BK3 := n3_; clear n0_ n2_ n3_; have hc_2_w4 : w4.cell? ⟨g2, 0, none⟩ = some (.slice A0 l0.length c0) := (blk_cell BK2.out 0).trans rfl; have hc_3_w4 : w4.cell? ⟨g3, 0, none⟩ = some (.slice A1 l1.length c1) := (blk_cell BK3.out 0).trans rfl; clear hb) | ((have tk_ := HA1); clear tk_; go_at_call 49; refine (impl_areLines.calls _ _ l1 _ _ (Kd.C_below HR1.out (by repeat (first | (with_reducible first | exact HB.out | apply below_alloc | apply pw_below_drewN | apply below_drew1) | exact HB.out))) HC1.out HA1.out).mono ?_; rintro e w5 ⟨rfl, hb⟩; clear HA1; have n0_ := Aside0.mk (below_step HB.out hb); have n2_ := Aside0.mk (blk_below BK2.out hb); have n3_ := Aside0.mk (blk_below BK3.out hb); clear HB BK2 BK3; have HB := n0_; have BK2 := n2_; have BK3 := n3_; clear n0_ n2_ n3_; have hc_2_w5 : w5.cell? ⟨g2, 0, none⟩ = some (.slice A0 l0.length c0) := (blk_cell BK2.out 0).trans rfl; have hc_3_w5 : w5.cell? ⟨g3, 0, none⟩ = some (.slice A1 l1.length c1) := (blk_cell BK3.out 0).trans rfl; clear hb))
      go_ret2
      exact ⟨_, rfl, Kd.S_nil _ _ _ _ _, HB.out⟩
    | true =>
      replace h : some ((ordL l0 l1).map encL, true) = some (r1, r2) := h
      simp only [Option.some.injEq, Prod.mk.injEq] at h
      obtain ⟨rfl, rfl⟩ := h
      obtain ⟨hn0, hb0⟩ := are_lines ha0
      obtain ⟨hn1, hb1⟩ := are_lines ha1
      have HLL := Aside0.mk (And.intro hn0 hn1)
      have HCB := Aside0.mk (cost_bound hb0 hb1)
      clear ha0 ha1 hn0 hn1 hb0 hb1
      go_enter Try.func26, Try.ntmps26
      go_wp2_with (first | ((with_reducible refine gate_dst (N := 2) rfl ?_); refine box_event ?hg (N := 2) ?hd (cs := #[.slice A0 l0.length c0]) (t := 35) ?hr ?_; (case hd => rfl); (case hg => rfl); (case hr => first | (go_simp; done) | (go_simp; rfl)); intro g2 hg_ w2 hbox hb; have n0_ := Aside0.mk (below_step HB.out hb); clear HB ; have HB := n0_; clear n0_ ; have BK2 := Aside0.mk hbox; clear hbox hg_ hb) | ((with_reducible refine gate_dst (N := 3) rfl ?_); refine box_event ?hg (N := 3) ?hd (cs := #[.slice A1 l1.length c1]) (t := 35) ?hr ?_; (case hd => rfl); (case hg => rfl); (case hr => first | (go_simp; done) | (go_simp; rfl)); intro g3 hg_ w3 hbox hb; have n0_ := Aside0.mk (below_step HB.out hb); have n2_ := Aside0.mk (blk_below BK2.out hb); clear HB BK2; have HB := n0_; have BK2 := n2_; clear n0_ n2_; have BK3 := Aside0.mk hbox; clear hbox hg_ hb; have hc_2_w3 : w3.cell? ⟨g2, 0, none⟩ = some (.slice A0 l0.length c0) := (blk_cell BK2.out 0).trans rfl; have hc_3_w3 : w3.cell? ⟨g3, 0, none⟩ = some (.slice A1 l1.length c1) := (blk_cell BK3.out 0).trans rfl) | ((have tk_ := HA0); clear tk_; go_at_call 49; refine (impl_areLines.calls _ _ l0 _ _ (Kd.C_below HR0.out (by repeat (first | (with_reducible first | exact HB.out | apply below_alloc | apply pw_below_drewN | apply below_drew1) | exact HB.out))) HC0.out HA0.out).mono ?_; rintro e w4 ⟨rfl, hb⟩; clear HA0; have n0_ := Aside0.mk (below_step HB.out hb); have n2_ := Aside0.mk (blk_below BK2.out hb); have n3_ := Aside0.mk (blk_below BK3.out hb); clear HB BK2 BK3; have HB := n0_; have BK2 := n2_; have BK3 := n3_; clear n0_ n2_ n3_; have hc_2_w4 : w4.cell? ⟨g2, 0, none⟩ = some (.slice A0 l0.length c0) := (blk_cell BK2.out 0).trans rfl; have hc_3_w4 : w4.cell? ⟨g3, 0, none⟩ = some (.slice A1 l1.length c1) := (blk_cell BK3.out 0).trans rfl; clear hb) | ((have tk_ := HA1); clear tk_; go_at_call 49; refine (impl_areLines.calls _ _ l1 _ _ (Kd.C_below HR1.out (by repeat (first | (with_reducible first | exact HB.out | apply below_alloc | apply pw_below_drewN | apply below_drew1) | exact HB.out))) HC1.out HA1.out).mono ?_; rintro e w5 ⟨rfl, hb⟩; clear HA1; have n0_ := Aside0.mk (below_step HB.out hb); have n2_ := Aside0.mk (blk_below BK2.out hb); have n3_ := Aside0.mk (blk_below BK3.out hb); clear HB BK2 BK3; have HB := n0_; have BK2 := n2_; have BK3 := n3_; clear n0_ n2_ n3_; have hc_2_w5 : w5.cell? ⟨g2, 0, none⟩ = some (.slice A0 l0.length c0) := (blk_cell BK2.out 0).trans rfl; have hc_3_w5 : w5.cell? ⟨g3, 0, none⟩ = some (.slice A1 l1.length c1) := (blk_cell BK3.out 0).trans rfl; clear hb) | ((with_reducible refine gate_dst (N := 19) rfl ?_); refine lit_event ?hg (N := 19) ?hd (cs := #[]) (t := 35) (n := 0) ?hr ?_; (case hd => rfl); (case hg => rfl); (case hr => first | (go_simp; done) | (go_simp; rfl)); intro g6 hg_ w6 hbox hb; have HLP := Aside0.mk (lp_start HB.out BK2.out BK3.out hg_ hbox hb); clear hbox hg_ hb HB BK2 BK3; have hc_2_w6 : w6.cell? ⟨g2, 0, none⟩ = some (.slice A0 l0.length c0) := (blk_cell (HLP.out.keeps _ (List.mem_cons_self)) 0).trans rfl; have hc_3_w6 : w6.cell? ⟨g3, 0, none⟩ = some (.slice A1 l1.length c1) := (blk_cell (HLP.out.keeps _ (List.mem_cons_of_mem _ List.mem_cons_self)) 0).trans rfl) | ((with_reducible refine gate_dst (N := 22) rfl ?_); refine lit_event ?hg (N := 22) ?hd (cs := #[.slice A0 l0.length c0, .slice A1 l1.length c1]) (t := 35) (n := 2) ?hr ?_; (case hd => rfl); (case hg => rfl); (case hr => first | (go_simp; done) | (go_simp; rfl)); intro gl hg_ w7 hbox hb; have n0_ := Aside0.mk (Lp.more HLP.out hg_ hbox hb); clear HLP hbox hg_ hb; have HLP := n0_; clear n0_))
      go_loopg [6, 24] 4 (fun kq v6 v24 w' => (v24 = .int .i64 0 ∧ Aside0 (3 ≤ kq) ∧ Aside0 (Lp w [(gl, Obj.cells #[.slice A0 l0.length c0, .slice A1 l1.length c1] 35 (0, 0)), (g2, Obj.cells #[.slice A0 l0.length c0] 35 (0, 0)), (g3, Obj.cells #[.slice A1 l1.length c1] 35 (0, 0))] w' v6 [])) ∨ (v24 = .int .i64 1 ∧ Aside0 (2 ≤ kq) ∧ Aside0 (Lp w [(gl, Obj.cells #[.slice A0 l0.length c0, .slice A1 l1.length c1] 35 (0, 0)), (g2, Obj.cells #[.slice A0 l0.length c0] 35 (0, 0)), (g3, Obj.cells #[.slice A1 l1.length c1] 35 (0, 0))] w' v6 (wayL 0 l0.length))) ∨ (v24 = .int .i64 2 ∧ Aside0 (1 ≤ kq) ∧ Aside0 (Lp w [(gl, Obj.cells #[.slice A0 l0.length c0, .slice A1 l1.length c1] 35 (0, 0)), (g2, Obj.cells #[.slice A0 l0.length c0] 35 (0, 0)), (g3, Obj.cells #[.slice A1 l1.length c1] 35 (0, 0))] w' v6 (linesL l0 l1))))
      case atStart => exact .inl ⟨rfl, ⟨by omega⟩, HLP⟩
      case round =>
        clear HLP
        rcases hrel with ⟨rfl, hqo, HLP⟩ | ⟨rfl, hqo, HLP⟩ | ⟨rfl, hqo, HLP⟩
        · skip
          have hcl_ : wr.cell? ⟨gl, 0, none⟩ = some (.slice A0 l0.length c0) := (blk_cell (HLP.out.keeps _ List.mem_cons_self) 0).trans rfl
          go_wp2
          go_loopg [6, 31] (l0.length + 1) (fun kq v6 v31 w' => ∃ j : Nat, v31 = .int .i64 (j : Int) ∧ Aside0 (j ≤ l0.length) ∧ Aside0 (l0.length - j < kq) ∧ Aside0 (Lp w [(gl, Obj.cells #[.slice A0 l0.length c0, .slice A1 l1.length c1] 35 (0, 0)), (g2, Obj.cells #[.slice A0 l0.length c0] 35 (0, 0)), (g3, Obj.cells #[.slice A1 l1.length c1] 35 (0, 0))] w' v6 ([] ++ wayL 0 j)))
          case atStart => exact ⟨0, rfl, ⟨Nat.zero_le _⟩, ⟨by omega⟩, ⟨by rw [show [] ++ wayL 0 0 = [] from List.append_nil _]; exact HLP.out⟩⟩
          case round =>
            clear HLP hcl_
            obtain ⟨j, rfl, hj, hq, HLP⟩ := hrel
            by_cases hlt : j < l0.length
            · have c0 : decide ((j : Int) < (l0.length : Int)) = true := decide_eq_true (by omega)
              have c00 : decide (j < l0.length) = true := decide_eq_true hlt
              have hll := HLL.out
              have HLEN := Aside0.mk (show ([] ++ wayL 0 j).length ≤ 1000 by rw [List.length_append, wayL_len]; simp only [List.length_nil]; omega)
              have e9 : (j : Int) + 1 ≤ 100000 := by omega
              have HQ := Aside0.mk (show l0.length - (j + 1) < gk - 1 ∧ 0 < gk ∧ j + 1 ≤ l0.length by have := hq.out; omega)
              clear hll hlt hj hq
              go_wp2_with (first | ((with_reducible refine gate_dst (N := 37) rfl ?_); refine lit_event ?hg (N := 37) ?hd (cs := #[.int .i64 0, .int .i64 (j : Int)]) (t := 3) (n := 2) ?hr ?_; (case hd => rfl); (case hg => rfl); (case hr => first | (go_simp; done) | (go_simp; rfl)); intro gn hg_ wn hbox hb; have HGN := Aside0.mk hg_; have HBX := Aside0.mk hbox; have HBN := Aside0.mk hb; clear hbox hg_ hb) | ((with_reducible refine gate_builtin (b := .append) (xs := #[.tmp 34, .tmp 38]) rfl ?_); at_builtin; refine lines_append rfl (.tmp 34) (.tmp 38) rfl HLP.out (0, j) HGN.out HBN.out HBX.out rfl rfl ?hl ?_; (case hl => exact HLEN.out); intro v1 w1 hlp; have n0_ := Aside0.mk hlp; clear HLP hlp HGN HBX HBN; have HLP := n0_; clear n0_))
              go_roundg (gk - 1)
              all_goals first
                | (have := HQ.out; omega)
                | exact ⟨j + 1, by go_num, ⟨HQ.out.2.2⟩, ⟨HQ.out.1⟩, ⟨by rw [wayL_succ, ← List.append_assoc]; exact HLP.out⟩⟩
            · have hje : j = l0.length := by have := hj.out; omega
              subst hje
              have c0 : decide ((l0.length : Int) < (l0.length : Int)) = false := decide_eq_false (by omega)
              have c00 : decide (l0.length < l0.length) = false := decide_eq_false (by omega)
              clear hlt hj hq
              go_wp2
              go_roundg 2
              all_goals first
                | (have := hqo.out; omega)
                | exact .inr (.inl ⟨rfl, ⟨by omega⟩, ⟨by exact HLP.out⟩⟩)
        · skip
          have hcl_ : wr.cell? ⟨gl, 1, none⟩ = some (.slice A1 l1.length c1) := (blk_cell (HLP.out.keeps _ List.mem_cons_self) 1).trans rfl
          go_wp2
          go_loopg [6, 31] (l1.length + 1) (fun kq v6 v31 w' => ∃ j : Nat, v31 = .int .i64 (j : Int) ∧ Aside0 (j ≤ l1.length) ∧ Aside0 (l1.length - j < kq) ∧ Aside0 (Lp w [(gl, Obj.cells #[.slice A0 l0.length c0, .slice A1 l1.length c1] 35 (0, 0)), (g2, Obj.cells #[.slice A0 l0.length c0] 35 (0, 0)), (g3, Obj.cells #[.slice A1 l1.length c1] 35 (0, 0))] w' v6 (wayL 0 l0.length ++ wayL 1 j)))
          case atStart => exact ⟨0, rfl, ⟨Nat.zero_le _⟩, ⟨by omega⟩, ⟨by rw [show wayL 0 l0.length ++ wayL 1 0 = wayL 0 l0.length from List.append_nil _]; exact HLP.out⟩⟩
          case round =>
            clear HLP hcl_
            obtain ⟨j, rfl, hj, hq, HLP⟩ := hrel
            by_cases hlt : j < l1.length
            · have c0 : decide ((j : Int) < (l1.length : Int)) = true := decide_eq_true (by omega)
              have c00 : decide (j < l1.length) = true := decide_eq_true hlt
              have hll := HLL.out
              have HLEN := Aside0.mk (show (wayL 0 l0.length ++ wayL 1 j).length ≤ 1000 by rw [List.length_append, wayL_len]; rw [wayL_len]; omega)
              have e9 : (j : Int) + 1 ≤ 100000 := by omega
              have HQ := Aside0.mk (show l1.length - (j + 1) < gk - 1 ∧ 0 < gk ∧ j + 1 ≤ l1.length by have := hq.out; omega)
              clear hll hlt hj hq
              go_wp2_with (first | ((with_reducible refine gate_dst (N := 37) rfl ?_); refine lit_event ?hg (N := 37) ?hd (cs := #[.int .i64 1, .int .i64 (j : Int)]) (t := 3) (n := 2) ?hr ?_; (case hd => rfl); (case hg => rfl); (case hr => first | (go_simp; done) | (go_simp; rfl)); intro gn hg_ wn hbox hb; have HGN := Aside0.mk hg_; have HBX := Aside0.mk hbox; have HBN := Aside0.mk hb; clear hbox hg_ hb) | ((with_reducible refine gate_builtin (b := .append) (xs := #[.tmp 34, .tmp 38]) rfl ?_); at_builtin; refine lines_append rfl (.tmp 34) (.tmp 38) rfl HLP.out (1, j) HGN.out HBN.out HBX.out rfl rfl ?hl ?_; (case hl => exact HLEN.out); intro v1 w1 hlp; have n0_ := Aside0.mk hlp; clear HLP hlp HGN HBX HBN; have HLP := n0_; clear n0_))
              go_roundg (gk - 1)
              all_goals first
                | (have := HQ.out; omega)
                | exact ⟨j + 1, by go_num, ⟨HQ.out.2.2⟩, ⟨HQ.out.1⟩, ⟨by rw [wayL_succ, ← List.append_assoc]; exact HLP.out⟩⟩
            · have hje : j = l1.length := by have := hj.out; omega
              subst hje
              have c0 : decide ((l1.length : Int) < (l1.length : Int)) = false := decide_eq_false (by omega)
              have c00 : decide (l1.length < l1.length) = false := decide_eq_false (by omega)
              clear hlt hj hq
              go_wp2
              go_roundg 1
              all_goals first
                | (have := hqo.out; omega)
                | exact .inr (.inr ⟨rfl, ⟨by omega⟩, ⟨by exact HLP.out⟩⟩)
        · go_wp2_with (first | ((go_at_call 51; refine (lines_sort HLP.out (List.mem_cons_of_mem _ List.mem_cons_self) (List.mem_cons_of_mem _ (List.mem_cons_of_mem _ List.mem_cons_self)) HR0.out HR1.out HLL.out.1 HLL.out.2 HCB.out).mono ?_; rintro e w9 ⟨rfl, hS, hb⟩; have HS := Aside0.mk hS; have HB := Aside0.mk hb; clear hS hb HLP)))
          go_ret2
          exact ⟨_, rfl, HS.out, HB.out⟩
end Go.Proofs.Ythlnpbdjblocfaa.P
