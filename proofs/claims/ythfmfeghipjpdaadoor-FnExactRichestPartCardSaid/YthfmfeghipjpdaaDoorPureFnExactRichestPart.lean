/- The richest part: the program's and the reference's are one, for all lists of texts and bars. -/
import Derived.Test.YthfmfeghipjpdaaDoorPureFnExactNutsInPart
import Derived.Test.YthfmfeghipjpdaaDoorPx39
namespace Go.Proofs.YthfmfeghipjpdaaDoor.Pure
open Go.RowKit Go.Proofs.YthfmfeghipjpdaaDoor.P Go.Proofs.YthfmfeghipjpdaaDoorW.PrintWords Go.Proofs.YthfmfeghipjpdaaDoorW.PrintLast
def rowFrom (y : Nat) : Nat → Nat → List (Nat × Nat)
  | _, 0 => []
  | x, d + 1 => (x, y) :: rowFrom y (x + 1) d
def allFrom (n : Nat) : Nat → Nat → List (Nat × Nat)
  | _, 0 => []
  | y, d + 1 => rowFrom y 0 n ++ allFrom n (y + 1) d
def stp (l : List ByteArray) (W H : Nat) (b : Int × Int × Int) (p : Nat × Nat) : Int × Int × Int := if partSum l p.1 W p.2 H > b.2.2 then ((p.1 : Int), (p.2 : Int), partSum l p.1 W p.2 H) else b
def mkP (W H : Nat) (p : Nat × Nat) : S57 := ⟨(p.1 : Int), (p.2 : Int), ⟨(W : Int), (H : Int)⟩⟩
section
variable {l : List ByteArray} {w : Nat}
theorem rich_l1 (h : Nuts l w) (W H y : Nat) (hy : y + H ≤ l.length) (hW : W ≤ w) (r : Int × Int × Int × Bool) : ∀ (d x : Nat) (b : Int × Int × Int), x + d = w + 1 - W →
    Ev (fun k => spec_RichestPart.l0 k l ((rowFrom y x d).foldl (stp l W H) b).1 ((rowFrom y x d).foldl (stp l W H) b).2.1 ((rowFrom y x d).foldl (stp l W H) b).2.2 ((y + 1 : Nat) : Int) (W : Int) (H : Int)) r →
    Ev (fun k => spec_RichestPart.l1 k l b.1 b.2.1 b.2.2 (y : Int) (x : Int) (W : Int) (H : Int)) r := by
  have h8 := h.rows8
  have h1 := h.rows1
  have w8 := h.wide8
  have h0 : ((rdOf ByteArray.empty l 0).size : Int) = (w : Int) := by
    have := (h.row 0 (by omega)).1
    simp only [Int.natCast_zero] at this
    omega
  intro d
  induction d with
  | zero =>
    intro x b hx next
    refine Ev.step (fun k => ?_) next
    simp only [spec_RichestPart.l1, h0]
    rw [if_pos (by omega), w64 (x := (x : Int) + W) (by omega) (by omega), if_neg (by omega), w64 (by omega) (by omega)]
    rfl
  | succ d ih =>
    intro x b hx next
    have s := nsum_at h x y W H (by omega) hy
    have e1 : wrap64 ((x : Int) + (W : Int)) = ((x + W : Nat) : Int) := by rw [w64 (by omega) (by omega)]; omega
    have e2 : wrap64 ((y : Int) + (H : Int)) = ((y + H : Nat) : Int) := by rw [w64 (by omega) (by omega)]; omega
    have e3 : wrap64 ((x : Int) + 1) = ((x + 1 : Nat) : Int) := by rw [w64 (by omega) (by omega)]; omega
    have hxw : ((x + W : Nat) : Int) ≤ (w : Int) := by clear e1 e2 e3; omega
    have hp : 0 < (l.length : Int) := by clear e1 e2 e3; omega
    have key : Ev (fun k => (spec_ntSum.f k l (x : Int) (y : Int) ((x + W : Nat) : Int) ((y + H : Nat) : Int)).bind fun t => (if t > b.2.2 then (spec_RichestPart.l1 k l (x : Int) (y : Int) t (y : Int) ((x + 1 : Nat) : Int) (W : Int) (H : Int)) else (spec_RichestPart.l1 k l b.1 b.2.1 b.2.2 (y : Int) ((x + 1 : Nat) : Int) (W : Int) (H : Int)))) r := by
      refine Ev.bind s ?_
      have next' : Ev (fun k => spec_RichestPart.l0 k l ((rowFrom y (x + 1) d).foldl (stp l W H) (stp l W H b (x, y))).1 ((rowFrom y (x + 1) d).foldl (stp l W H) (stp l W H b (x, y))).2.1 ((rowFrom y (x + 1) d).foldl (stp l W H) (stp l W H b (x, y))).2.2 ((y + 1 : Nat) : Int) (W : Int) (H : Int)) r := next
      by_cases c : partSum l x W y H > b.2.2
      · refine ev_if_pos c (ih (x + 1) ((x : Int), (y : Int), partSum l x W y H) (by clear e1 e2 e3; omega) ?_)
        rw [show stp l W H b (x, y) = ((x : Int), (y : Int), partSum l x W y H) from if_pos c] at next'
        exact next'
      · refine ev_if_neg c (ih (x + 1) b (by clear e1 e2 e3; omega) ?_)
        rw [show stp l W H b (x, y) = b from if_neg c] at next'
        exact next'
    refine Ev.step (fun k => ?_) key
    simp only [spec_RichestPart.l1, h0, e1, e2, e3]
    rw [if_pos hp, if_pos hxw]
theorem rich_l0 (h : Nuts l w) (W H : Nat) (hH : H ≤ l.length) (hW : W ≤ w) : ∀ (d y : Nat) (b : Int × Int × Int), y + d = l.length + 1 - H →
    Ev (fun k => spec_RichestPart.l0 k l b.1 b.2.1 b.2.2 (y : Int) (W : Int) (H : Int)) (((allFrom (w + 1 - W) y d).foldl (stp l W H) b).1, ((allFrom (w + 1 - W) y d).foldl (stp l W H) b).2.1, ((allFrom (w + 1 - W) y d).foldl (stp l W H) b).2.2, true) := by
  have h8 := h.rows8
  intro d
  induction d with
  | zero =>
    intro y b hy
    refine Ev.step (f := fun _ => some (b.1, b.2.1, b.2.2, true)) (fun k => ?_) (Ev.now _)
    simp only [spec_RichestPart.l0]
    rw [w64 (by omega) (by omega), if_neg (by omega)]
  | succ d ih =>
    intro y b hy
    have n := ih (y + 1) ((rowFrom y 0 (w + 1 - W)).foldl (stp l W H) b) (by omega)
    rw [show allFrom (w + 1 - W) y (d + 1) = rowFrom y 0 (w + 1 - W) ++ allFrom (w + 1 - W) (y + 1) d from rfl, List.foldl_append]
    refine Ev.step (fun k => ?_) (rich_l1 h W H y (by omega) hW _ (w + 1 - W) 0 b (by omega) n)
    simp only [spec_RichestPart.l0]
    rw [w64 (by omega) (by omega), if_pos (by omega)]
    rfl

theorem parts_l1 (h : Nuts l w) (W H y : Nat) (hy : y + H ≤ l.length) (hW8 : W ≤ 12) (r : List S57) : ∀ (d x : Nat) (acc : List S57), x + d = w + 1 - W → acc.length + d ≤ 1000 →
    Ev (fun k => impl_parts.l0 k l (acc ++ (rowFrom y x d).map (mkP W H)) ((y + 1 : Nat) : Int) (W : Int) (H : Int)) r →
    Ev (fun k => impl_parts.l1 k l acc (y : Int) (x : Int) (W : Int) (H : Int)) r := by
  have h8 := h.rows8
  have h1 := h.rows1
  have w8 := h.wide8
  have h0 : ((rdOf ByteArray.empty l 0).size : Int) = (w : Int) := by
    have := (h.row 0 (by omega)).1
    simp only [Int.natCast_zero] at this
    omega
  intro d
  induction d with
  | zero =>
    intro x acc hx ha next
    rw [show acc ++ (rowFrom y x 0).map (mkP W H) = acc from List.append_nil _] at next
    refine Ev.step (fun k => ?_) next
    simp only [impl_parts.l1, h0]
    rw [if_pos (by omega), w64 (x := (x : Int) + W) (by omega) (by omega), if_neg (by omega), w64 (by omega) (by omega)]
    rfl
  | succ d ih =>
    intro x acc hx ha next
    rw [show acc ++ (rowFrom y x (d + 1)).map (mkP W H) = (acc ++ [mkP W H (x, y)]) ++ (rowFrom y (x + 1) d).map (mkP W H) by simp [rowFrom]] at next
    refine Ev.step (fun k => ?_) (ih (x + 1) (acc ++ [mkP W H (x, y)]) (by omega) (by rw [List.length_append, List.length_singleton]; omega) next)
    simp only [impl_parts.l1, h0]
    rw [if_pos (by omega), w64 (x := (x : Int) + W) (by omega) (by omega), if_pos (by omega), if_pos (by omega), w64 (by omega) (by omega)]
    rfl
theorem rowFrom_len (y : Nat) : ∀ d x, (rowFrom y x d).length = d
  | 0, _ => rfl
  | d + 1, x => by rw [show rowFrom y x (d + 1) = (x, y) :: rowFrom y (x + 1) d from rfl, List.length_cons, rowFrom_len y d]
theorem parts_l0 (h : Nuts l w) (W H : Nat) (hW8 : W ≤ 12) (hH8 : H ≤ 12) : ∀ (d y : Nat) (acc : List S57), (y + d = l.length + 1 - H) → acc.length + 9 * d ≤ 500 →
    Ev (fun k => impl_parts.l0 k l acc (y : Int) (W : Int) (H : Int)) (acc ++ (allFrom (w + 1 - W) y d).map (mkP W H)) := by
  have h8 := h.rows8
  have w8 := h.wide8
  intro d
  induction d with
  | zero =>
    intro y acc hy ha
    rw [show acc ++ (allFrom (w + 1 - W) y 0).map (mkP W H) = acc from List.append_nil _]
    refine Ev.step (f := fun _ => some acc) (fun k => ?_) (Ev.now _)
    simp only [impl_parts.l0]
    rw [w64 (by omega) (by omega), if_neg (by omega)]
  | succ d ih =>
    intro y acc hy ha
    have n := ih (y + 1) (acc ++ (rowFrom y 0 (w + 1 - W)).map (mkP W H)) (by omega) (by rw [List.length_append, List.length_map, rowFrom_len]; omega)
    rw [show acc ++ (allFrom (w + 1 - W) y (d + 1)).map (mkP W H) = (acc ++ (rowFrom y 0 (w + 1 - W)).map (mkP W H)) ++ (allFrom (w + 1 - W) (y + 1) d).map (mkP W H) by simp [allFrom]]
    refine Ev.step (fun k => ?_) (parts_l1 h W H y (by omega) hW8 _ (w + 1 - W) 0 acc (by omega) (by omega) n)
    simp only [impl_parts.l0]
    rw [w64 (by omega) (by omega), if_pos (by omega)]
    rfl
/-- Places inside. -/
def Fits (l : List ByteArray) (w W H : Nat) (ps : List (Nat × Nat)) : Prop := ∀ p ∈ ps, p.1 + W ≤ w ∧ p.2 + H ≤ l.length
theorem rowFrom_fits (W H y : Nat) (hy : y + H ≤ l.length) : ∀ d x, x + d = w + 1 - W → Fits l w W H (rowFrom y x d) := by
  intro d
  induction d with
  | zero => intro x hx p hp; exact absurd hp (List.not_mem_nil)
  | succ d ih =>
    intro x hx p hp
    rcases List.mem_cons.1 hp with rfl | hp
    · exact ⟨by show x + W ≤ w; omega, hy⟩
    · exact ih (x + 1) (by omega) p hp
theorem allFrom_fits (W H : Nat) : ∀ d y, y + d = l.length + 1 - H → Fits l w W H (allFrom (w + 1 - W) y d) := by
  intro d
  induction d with
  | zero => intro y hy p hp; exact absurd hp (List.not_mem_nil)
  | succ d ih =>
    intro y hy p hp
    rcases List.mem_append.1 hp with hp | hp
    · exact rowFrom_fits W H y (by omega) _ 0 (by omega) p hp
    · exact ih (y + 1) (by omega) p hp
theorem allFrom_len (n : Nat) : ∀ d y, (allFrom n y d).length = d * n
  | 0, _ => by simp [allFrom]
  | d + 1, y => by rw [show allFrom n y (d + 1) = rowFrom y 0 n ++ allFrom n (y + 1) d from rfl, List.length_append, rowFrom_len, allFrom_len n d, Nat.succ_mul, Nat.add_comm]

theorem rich_impl (h : Nuts l w) (W H : Nat) (ps : List (Nat × Nat)) (hf : Fits l w W H ps) (hlen : ps.length ≤ 1000) : ∀ (d i : Nat) (b : Int × Int × Int) (z2 z3 : Int), i + d = ps.length →
    Ev (fun k => impl_RichestPart.l0 k l b.2.2 (ps.map (mkP W H)) ((ps.map (mkP W H)).length : Int) (i : Int) b.1 b.2.1 z2 z3) (if ((ps.drop i).foldl (stp l W H) b).2.2 < 0 then (0, 0, 0, false) else (((ps.drop i).foldl (stp l W H) b).1, ((ps.drop i).foldl (stp l W H) b).2.1, ((ps.drop i).foldl (stp l W H) b).2.2, true)) := by
  have hml : (ps.map (mkP W H)).length = ps.length := List.length_map _
  intro d
  induction d with
  | zero =>
    intro i b z2 z3 hi
    rw [List.drop_of_length_le (by omega)]
    show Ev _ (if b.2.2 < 0 then (0, 0, 0, false) else (b.1, b.2.1, b.2.2, true))
    refine Ev.step (f := fun _ => some (if b.2.2 < 0 then (0, 0, 0, false) else (b.1, b.2.1, b.2.2, true))) (fun k => ?_) (Ev.now _)
    simp only [impl_RichestPart.l0]
    rw [if_neg (by omega)]
    by_cases c : b.2.2 < 0
    · rw [if_pos c, if_pos c]
    · rw [if_neg c, if_neg c]
  | succ d ih =>
    intro i b z2 z3 hi
    have hlt : i < ps.length := by omega
    have hr : rd_T57 (ps.map (mkP W H)) (i : Int) = mkP W H ps[i] := by
      unfold rd_T57
      rw [Int.toNat_natCast, List.getD_eq_getElem?_getD, List.getElem?_map, List.getElem?_eq_getElem hlt]
      rfl
    obtain ⟨f1, f2⟩ := hf ps[i] (List.getElem_mem hlt)
    have s := nutsIn_ev h ps[i].1 ps[i].2 W H f1 f2
    have e3 : wrap64 ((i : Int) + 1) = ((i + 1 : Nat) : Int) := by rw [w64 (by omega) (by omega)]; omega
    rw [List.drop_eq_getElem_cons hlt, List.foldl_cons]
    have c1 : (i : Int) < ((ps.map (mkP W H)).length : Int) := by rw [hml]; clear e3; omega
    have c0 : 0 ≤ (i : Int) := by clear e3; omega
    have key : Ev (fun k => (impl_nutsIn.f k l (ps[i].1 : Int) (ps[i].2 : Int) (W : Int) (H : Int)).bind fun t => (if t > b.2.2 then (impl_RichestPart.l0 k l t (ps.map (mkP W H)) ((ps.map (mkP W H)).length : Int) ((i + 1 : Nat) : Int) (ps[i].1 : Int) (ps[i].2 : Int) (W : Int) (H : Int)) else (impl_RichestPart.l0 k l b.2.2 (ps.map (mkP W H)) ((ps.map (mkP W H)).length : Int) ((i + 1 : Nat) : Int) b.1 b.2.1 z2 z3))) (if ((ps.drop (i + 1)).foldl (stp l W H) (stp l W H b ps[i])).2.2 < 0 then (0, 0, 0, false) else (((ps.drop (i + 1)).foldl (stp l W H) (stp l W H b ps[i])).1, ((ps.drop (i + 1)).foldl (stp l W H) (stp l W H b ps[i])).2.1, ((ps.drop (i + 1)).foldl (stp l W H) (stp l W H b ps[i])).2.2, true)) := by
      refine Ev.bind s ?_
      by_cases c : partSum l ps[i].1 W ps[i].2 H > b.2.2
      · rw [show stp l W H b ps[i] = ((ps[i].1 : Int), (ps[i].2 : Int), partSum l ps[i].1 W ps[i].2 H) from if_pos c]
        exact ev_if_pos c (ih (i + 1) ((ps[i].1 : Int), (ps[i].2 : Int), partSum l ps[i].1 W ps[i].2 H) _ _ (by clear e3; omega))
      · rw [show stp l W H b ps[i] = b from if_neg c]
        exact ev_if_neg c (ih (i + 1) b _ _ (by clear e3; omega))
    refine Ev.step (fun k => ?_) key
    simp only [impl_RichestPart.l0, hr, e3]
    rw [if_pos c1, if_pos c0, if_pos c1]
    rfl
theorem fold_ge (W H : Nat) : ∀ (ps : List (Nat × Nat)) (b : Int × Int × Int), b.2.2 ≤ (ps.foldl (stp l W H) b).2.2
  | [], _ => Int.le_refl _
  | p :: ps, b => by
    have := fold_ge W H ps (stp l W H b p)
    rw [List.foldl_cons]
    refine Int.le_trans ?_ this
    unfold stp
    by_cases c : partSum l p.1 W p.2 H > b.2.2
    · rw [if_pos c]
      show b.2.2 ≤ partSum l p.1 W p.2 H
      omega
    · rw [if_neg c]
      exact Int.le_refl _
theorem fold_pos (h : Nuts l w) (W H : Nat) (p : Nat × Nat) (ps : List (Nat × Nat)) (b : Int × Int × Int) (hf : Fits l w W H (p :: ps)) : 0 ≤ ((p :: ps).foldl (stp l W H) b).2.2 := by
  obtain ⟨f1, f2⟩ := hf p (List.mem_cons_self)
  have g := (partSum_bd h p.1 W f1 H p.2 f2).1
  rw [List.foldl_cons]
  refine Int.le_trans ?_ (fold_ge W H ps (stp l W H b p))
  unfold stp
  by_cases c : partSum l p.1 W p.2 H > b.2.2
  · rw [if_pos c]
    exact g
  · rw [if_neg c]
    omega
end
theorem richest_both (l : List ByteArray) (hl : l.length ≤ 1048576) (hz : sizes l ≤ 1048576) (W H : Int) : ∃ r, Ev (fun k => spec_RichestPart.f k l W H) r ∧ Ev (fun k => impl_RichestPart.f k l W H) r := by
  obtain ⟨b, hg, hi, hb⟩ := good_both l hl hz
  have jS : Ev (fun k => spec_RichestPart.j0 k l true W H) (0, 0, 0, false) := Ev.step (fun k => by simp only [spec_RichestPart.j0, if_true]) (Ev.now _)
  have jI : Ev (fun k => impl_RichestPart.j0 k l true W H) (0, 0, 0, false) := Ev.step (fun k => by simp only [impl_RichestPart.j0, if_true]) (Ev.now _)
  cases b with
  | false =>
    refine ⟨(0, 0, 0, false), ?_, ?_⟩
    · unfold spec_RichestPart.f
      exact Ev.bind hg (ev_if_neg (by decide) jS)
    · unfold impl_RichestPart.f
      exact ev_val hi (ev_if_neg (by decide) jI)
  | true =>
    obtain ⟨w, h⟩ := hb rfl
    have h1 := h.rows1
    have h8 := h.rows8
    have w1 := h.wide1
    have w8 := h.wide8
    have h0 : ((rdOf ByteArray.empty l 0).size : Int) = (w : Int) := by
      have := (h.row 0 (by omega)).1
      simp only [Int.natCast_zero] at this
      omega
    cases hB : goodB W H with
    | false =>
      refine ⟨(0, 0, 0, false), ?_, ?_⟩
      · unfold spec_RichestPart.f
        exact Ev.bind hg (ev_if_pos rfl (ev_val (brGood_some W H) (by rw [hB]; exact ev_if_neg (by decide) jS)))
      · unfold impl_RichestPart.f
        exact ev_val hi (ev_if_pos rfl (ev_val (isBar_some W H) (by rw [hB]; exact jI)))
    | true =>
      obtain ⟨b1, b2, b3, b4⟩ := goodB_true hB
      obtain ⟨Wn, rfl⟩ : ∃ n : Nat, W = (n : Int) := ⟨W.toNat, by omega⟩
      obtain ⟨Hn, rfl⟩ : ∃ n : Nat, H = (n : Int) := ⟨H.toNat, by omega⟩
      have hfit : Fits l w Wn Hn (allFrom (w + 1 - Wn) 0 (l.length + 1 - Hn)) := allFrom_fits Wn Hn _ 0 (by omega)
      have hlen : (allFrom (w + 1 - Wn) 0 (l.length + 1 - Hn)).length ≤ 1000 := by
        rw [allFrom_len]
        have : (l.length + 1 - Hn) * (w + 1 - Wn) ≤ 8 * 8 := Nat.mul_le_mul (by omega) (by omega)
        omega
      have hp := parts_l0 h Wn Hn (by omega) (by omega) (l.length + 1 - Hn) 0 [] (by omega) (by rw [List.length_nil]; omega)
      rw [List.nil_append] at hp
      have hrun := rich_impl h Wn Hn _ hfit hlen (allFrom (w + 1 - Wn) 0 (l.length + 1 - Hn)).length 0 (0, 0, -1) 0 0 (by omega)
      rw [List.drop_zero] at hrun
      have hI : ∀ r, r = (if ((allFrom (w + 1 - Wn) 0 (l.length + 1 - Hn)).foldl (stp l Wn Hn) (0, 0, -1)).2.2 < 0 then (0, 0, 0, false) else (((allFrom (w + 1 - Wn) 0 (l.length + 1 - Hn)).foldl (stp l Wn Hn) (0, 0, -1)).1, ((allFrom (w + 1 - Wn) 0 (l.length + 1 - Hn)).foldl (stp l Wn Hn) (0, 0, -1)).2.1, ((allFrom (w + 1 - Wn) 0 (l.length + 1 - Hn)).foldl (stp l Wn Hn) (0, 0, -1)).2.2, true)) → Ev (fun k => impl_RichestPart.f k l (Wn : Int) (Hn : Int)) r := by
        intro r hr
        subst hr
        unfold impl_RichestPart.f
        refine ev_val hi (ev_if_pos rfl (ev_val (isBar_some _ _) ?_))
        rw [hB]
        refine Ev.step (fun k => by simp only [impl_RichestPart.j0, Bool.not_true, Bool.false_eq_true, if_false]; rfl) (Ev.bind hp ?_)
        exact hrun
      by_cases c : Wn ≤ w ∧ Hn ≤ l.length
      · obtain ⟨c1, c2⟩ := c
        have hs := rich_l0 h Wn Hn c2 c1 (l.length + 1 - Hn) 0 (0, 0, -1) (by omega)
        have hne : ∃ p ps, allFrom (w + 1 - Wn) 0 (l.length + 1 - Hn) = p :: ps := by
          cases e : allFrom (w + 1 - Wn) 0 (l.length + 1 - Hn) with
          | nil =>
            have e2 := allFrom_len (w + 1 - Wn) (l.length + 1 - Hn) 0
            rw [e, List.length_nil] at e2
            have : 0 < (l.length + 1 - Hn) * (w + 1 - Wn) := Nat.mul_pos (by omega) (by omega)
            omega
          | cons p ps => exact ⟨p, ps, rfl⟩
        have hpos : ¬ ((allFrom (w + 1 - Wn) 0 (l.length + 1 - Hn)).foldl (stp l Wn Hn) (0, 0, -1)).2.2 < 0 := by
          obtain ⟨p, ps, e⟩ := hne
          rw [e] at hfit ⊢
          have := fold_pos h Wn Hn p ps (0, 0, -1) hfit
          omega
        refine ⟨_, ?_, hI _ (if_neg hpos).symm⟩
        unfold spec_RichestPart.f
        refine Ev.bind hg (ev_if_pos rfl (ev_val (brGood_some _ _) ?_))
        rw [hB]
        refine ev_if_pos rfl (ev_if_pos (by omega) ?_)
        rw [h0]
        refine ev_if_neg (by omega) ?_
        rw [decide_eq_false (show ¬ (Hn : Int) > (l.length : Int) by omega)]
        exact Ev.step (fun k => by simp only [spec_RichestPart.j0, Bool.false_eq_true, if_false]; rfl) hs
      · have hnil : allFrom (w + 1 - Wn) 0 (l.length + 1 - Hn) = [] := by
          apply List.eq_nil_of_length_eq_zero
          rw [allFrom_len]
          rcases Nat.lt_or_ge w Wn with c1 | c1
          · rw [show w + 1 - Wn = 0 by omega, Nat.mul_zero]
          · rw [show l.length + 1 - Hn = 0 by omega, Nat.zero_mul]
        refine ⟨(0, 0, 0, false), ?_, hI _ (by rw [hnil]; rfl)⟩
        unfold spec_RichestPart.f
        refine Ev.bind hg (ev_if_pos rfl (ev_val (brGood_some _ _) ?_))
        rw [hB]
        refine ev_if_pos rfl (ev_if_pos (by omega) ?_)
        rw [h0]
        by_cases c1 : (Wn : Int) > (w : Int)
        · exact ev_if_pos c1 jS
        · refine ev_if_neg c1 ?_
          rw [decide_eq_true (show (Hn : Int) > (l.length : Int) by omega)]
          exact jS
theorem FnExactRichestPart (l0 : List ByteArray) (hm : l0.length ≤ maxLen) (_ : l0.length * 16 ≤ 140737488351232) (hs : (∀ s ∈ l0, s.size ≤ 140737488351232)) (a1_0 : Int) (a1_1 : Int) (_ : (Lit.int .i64 a1_0).wf = true) (_ : (Lit.int .i64 a1_1).wf = true) : ∃ k, laws_FnExactRichestPart.f k l0 a1_0 a1_1 = some true := by
  refine Ev.rounds (r := true) ?_
  unfold laws_FnExactRichestPart.f
  obtain ⟨t, ht, hz⟩ := sz_ev l0 hm hs
  refine Ev.bind ht ?_
  by_cases h0 : t < 0
  · simp only [if_pos h0]
    exact Ev.now _
  · simp only [if_neg h0]
    obtain ⟨hl, hz⟩ := hz (by omega)
    have hc := toStringS_ev l0 hl
    obtain ⟨r, hS, hI⟩ := richest_both l0 hl hz a1_0 a1_1
    simp only [toBar_some, Option.bind_some]
    refine Ev.bind hc (Ev.bind hS (Ev.bind hc (Ev.bind hI ?_)))
    simp only [if_true, bne_self_eq_false]
    refine Ev.step (fun k => by simp only [laws_FnExactRichestPart.j0, Bool.false_eq_true, if_false]; rfl) ?_
    refine Ev.bind hc (Ev.bind (eqStringS_refl l0 (by omega)) ?_)
    simp only [if_true]
    exact Ev.now _
end Go.Proofs.YthfmfeghipjpdaaDoor.Pure
