/- ChompMoves of the program answers as the reference's, for all lists of numbers; its argument is not held, and what it hands back is memory of its own, row by row. -/
import Derived.Test.YtfppdfphbphhhaaCChomp
import Derived.Test.YtfppdfphbphhhaaUInts
import Derived.Test.YtfppdfphbphhhaaUMarks
import Derived.Test.YtfppdfphbphhhaaOLawMoves
namespace Go.Proofs.Ytfppdfphbphhhaa.Pure
open Go.RowKit Go.Proofs.Ytfppdfphbphhhaa.P Go.Proofs.YtfppdfphbphhhaaW.PrintWords Go.Proofs.YtfppdfphbphhhaaW.PrintLast
theorem rdL_lt (l : List (List Int)) (i : Nat) (h : i < l.length) : rd_L1 l (i : Int) = l[i] := by
  unfold rd_L1
  rw [Int.toNat_natCast, List.getD_eq_getElem?_getD, List.getElem?_eq_getElem h]
  rfl
theorem eqIntSS_l0 (l : List (List Int)) (hn : l.length ≤ 1000000) (hr : ∀ s ∈ l, s.length ≤ 1000000) : ∀ (d i : Nat), i + d = l.length → Ev (fun k => laws_eqIntSS.l0 k l l (i : Int)) true := by
  intro d
  induction d with
  | zero =>
    intro i hi
    refine Ev.step (f := fun _ => some true) (fun k => by simp only [laws_eqIntSS.l0]; rw [if_neg (by omega)]) (Ev.now _)
  | succ d ih =>
    intro i hi
    have h1 := hr _ (List.getElem_mem (show i < l.length by omega))
    refine Ev.step (fun k => by simp only [laws_eqIntSS.l0, rdL_lt l i (by omega)]; rfl) (ev_if_pos (by omega) (ev_if_pos (by omega) (ev_if_pos (by omega) (Ev.bind (eqIntS_refl l[i] (by omega)) (ev_if_pos rfl ?_)))))
    rw [show wrap64 ((i : Int) + 1) = ((i + 1 : Nat) : Int) by rw [w64 (by omega) (by omega)]; rfl]
    exact ih (i + 1) (by omega)
theorem eqIntSS_refl (l : List (List Int)) (hn : l.length ≤ 1000000) (hr : ∀ s ∈ l, s.length ≤ 1000000) : Ev (fun k => laws_eqIntSS.f k l l) true := by
  have := eqIntSS_l0 l hn hr l.length 0 (by omega)
  unfold laws_eqIntSS.f
  exact ev_if_pos rfl this
def lens : List (List Int) → Nat
  | [] => 0
  | s :: r => s.length + lens r
def marksSS : List (List Int) → Nat → List (List Int)
  | [], _ => []
  | s :: r, c => marks s.length c :: marksSS r (c + s.length)
theorem marksSS_len : ∀ (l : List (List Int)) (c : Nat), (marksSS l c).length = l.length
  | [], _ => rfl
  | s :: r, c => by simp [marksSS, marksSS_len r]
theorem lens_le : ∀ (l : List (List Int)), (∀ s ∈ l, s.length ≤ 1000) → lens l ≤ 1000 * l.length
  | [], _ => Nat.le_refl _
  | s :: r, h => by
    have a := h s List.mem_cons_self
    have b := lens_le r (fun x hx => h x (List.mem_cons_of_mem _ hx))
    simp only [lens, List.length_cons]
    omega
theorem markIntSS_l0 : ∀ (d i : Nat) (l : List (List Int)) (c : Nat), l.length = i + d → l.length ≤ 1000000 → (∀ s ∈ l.drop i, s.length ≤ 1000) → c ≤ 1000 * i + 1 →
    Ev (fun k => laws_markIntSS.l0 k l (c : Int) (i : Int)) (((c + lens (l.drop i) : Nat) : Int), l.take i ++ marksSS (l.drop i) c) := by
  intro d
  induction d with
  | zero =>
    intro i l c hl hn hs hc
    rw [List.drop_of_length_le (by omega), List.take_of_length_le (by omega)]
    refine Ev.step (f := fun _ => some (((c + lens [] : Nat) : Int), l ++ marksSS [] c)) (fun k => ?_) (Ev.now _)
    simp only [laws_markIntSS.l0]
    rw [if_neg (by omega)]
    simp [lens, marksSS]
  | succ d ih =>
    intro i l c hl hn hs hc
    have hi : i < l.length := by omega
    have h1 : l[i].length ≤ 1000 := hs _ (by rw [List.drop_eq_getElem_cons hi]; exact List.mem_cons_self)
    have hdrop : (l.set i (marks l[i].length c)).drop (i + 1) = l.drop (i + 1) := by rw [List.drop_set_of_lt (by omega)]
    have next := ih (i + 1) (l.set i (marks l[i].length c)) (c + l[i].length) (by rw [List.length_set]; omega) (by rw [List.length_set]; omega) (fun s hs' => hs s (by rw [hdrop] at hs'; rw [List.drop_eq_getElem_cons hi]; exact List.mem_cons_of_mem _ hs')) (by omega)
    rw [hdrop, List.take_succ_eq_append_getElem (by rw [List.length_set]; omega), List.getElem_set_self, List.take_set_of_le (by omega)] at next
    rw [show c + l[i].length + lens (l.drop (i + 1)) = c + lens (l.drop i) by rw [List.drop_eq_getElem_cons hi]; simp only [lens]; omega] at next
    rw [show l.take i ++ [marks l[i].length c] ++ marksSS (l.drop (i + 1)) (c + l[i].length) = l.take i ++ marksSS (l.drop i) c by rw [List.drop_eq_getElem_cons hi]; simp [marksSS]] at next
    have mk := markIntS_ev l[i] c (by omega) (by omega)
    refine Ev.step (fun k => by simp only [laws_markIntSS.l0, rdL_lt l i hi, Int.toNat_natCast]; rfl) (ev_if_pos (by omega) (ev_if_pos (by omega) (Ev.bind mk ?_)))
    rw [show wrap64 ((i : Int) + 1) = ((i + 1 : Nat) : Int) by rw [w64 (by omega) (by omega)]; rfl]
    exact next
theorem heldIntSS_l0 (L : List (List Int)) (hn : L.length ≤ 1000000) : ∀ (r : List (List Int)) (i c : Nat), L.length = i + r.length → L.drop i = marksSS r c → (∀ s ∈ r, s.length ≤ 1000) → c ≤ 1000 * i + 1 →
    Ev (fun k => laws_heldIntSS.l0 k L (c : Int) (i : Int)) ((c + lens r : Nat) : Int) := by
  intro r
  induction r with
  | nil =>
    intro i c hl hd hs hc
    refine Ev.step (f := fun _ => some ((c + lens [] : Nat) : Int)) (fun k => ?_) (Ev.now _)
    simp only [laws_heldIntSS.l0]
    rw [if_neg (by simp at hl; omega)]
    simp [lens]
  | cons s r ih =>
    intro i c hl hd hs hc
    simp only [List.length_cons] at hl
    have hi : i < L.length := by omega
    have hs1 := hs s List.mem_cons_self
    rw [List.drop_eq_getElem_cons hi] at hd
    simp only [marksSS, List.cons.injEq] at hd
    have next := ih (i + 1) (c + s.length) (by omega) hd.2 (fun x hx => hs x (List.mem_cons_of_mem _ hx)) (by omega)
    rw [show c + s.length + lens r = c + lens (s :: r) by simp only [lens]; omega] at next
    have hh := heldIntS_ev s.length c (by omega) (by omega)
    rw [← hd.1, ← rdL_lt L i hi] at hh
    refine Ev.step (fun k => by simp only [laws_heldIntSS.l0]; rfl) (ev_if_pos (by omega) (ev_if_pos (by omega) (Ev.bind hh (ev_if_neg (Int.not_lt.2 (Int.natCast_nonneg _)) ?_))))
    rw [show wrap64 ((i : Int) + 1) = ((i + 1 : Nat) : Int) by rw [w64 (by omega) (by omega)]; rfl]
    exact next
theorem rows_held (l : List (List Int)) (hn : l.length ≤ 1000000) (hs : ∀ s ∈ l, s.length ≤ 1000) : ∃ (c : Int) (l' : List (List Int)), 0 ≤ c ∧ Ev (fun k => laws_markIntSS.f k l 1) (c, l') ∧ Ev (fun k => laws_heldIntSS.f k l' 1) c := by
  have a := markIntSS_l0 l.length 0 l 1 (by omega) hn hs (by omega)
  have b := heldIntSS_l0 (marksSS l 1) (by rw [marksSS_len]; omega) l 0 1 (by rw [marksSS_len]; omega) rfl hs (by omega)
  rw [List.take_zero, List.nil_append, List.drop_zero] at a
  exact ⟨_, _, by omega, a, b⟩
/-- What the moves are like: not many, each of two numbers. -/
def FewMoves (r : List (List Int)) : Prop := r.length ≤ 36 ∧ ∀ s ∈ r, s.length = 2
theorem moves_l1 (l : List Int) (y n : Nat) (hn : n ≤ 6) (hy : y < 6) (q : Int)
    (next : ∀ o : List (List Int), o.length ≤ 6 * (y + 1) → (∀ s ∈ o, s.length = 2) → ∃ r, FewMoves r ∧ Ev (fun k => spec_cmMoves.l0 k o l q ((y + 1 : Nat) : Int)) r ∧ Ev (fun k => impl_bites.l0 k o l q ((y + 1 : Nat) : Int)) r) :
    ∀ (d x : Nat) (o : List (List Int)), x + d = n → o.length ≤ 6 * y + x → (∀ s ∈ o, s.length = 2) → ∃ r, FewMoves r ∧ Ev (fun k => spec_cmMoves.l1 k o (y : Int) (n : Int) (x : Int) l q (y : Int)) r ∧ Ev (fun k => impl_bites.l1 k o (y : Int) l q (y : Int) (n : Int) (x : Int)) r := by
  have ey : wrap64 ((y : Int) + 1) = ((y + 1 : Nat) : Int) := by rw [w64 (by omega) (by omega)]; rfl
  intro d
  induction d with
  | zero =>
    intro x o hx ho h2
    obtain ⟨r, hr, a, b⟩ := next o (by omega) h2
    refine ⟨r, hr, Ev.step (fun k => by simp only [spec_cmMoves.l1, ey]; rfl) (ev_if_neg (by omega) a), Ev.step (fun k => by simp only [impl_bites.l1, ey]; rfl) (ev_if_neg (by omega) b)⟩
  | succ d ih =>
    intro x o hx ho h2
    have ex : wrap64 ((x : Int) + 1) = ((x + 1 : Nat) : Int) := by rw [w64 (by omega) (by omega)]; rfl
    have es : wrap64 ((x : Int) + (y : Int)) = (x : Int) + (y : Int) := w64 (by omega) (by omega)
    by_cases h0 : 0 < x ∨ 0 < y
    · obtain ⟨r, hr, a, b⟩ := ih (x + 1) (o ++ [[(x : Int), (y : Int)]]) (by omega) (by rw [List.length_append, List.length_singleton]; omega) (fun s hs => by
        rcases List.mem_append.1 hs with hs | hs
        · exact h2 s hs
        · rw [List.mem_singleton.1 hs]; rfl)
      refine ⟨r, hr, Ev.step (fun k => by simp only [spec_cmMoves.l1, ex, es]; rfl) (ev_if_pos (by omega) (ev_if_pos (by omega) (ev_if_pos (by omega) a))), Ev.step (fun k => by simp only [impl_bites.l1, ex]; rfl) (ev_if_pos (by omega) ?_)⟩
      by_cases hx0 : 0 < x
      · exact ev_if_pos (by omega) (ev_if_pos (by omega) b)
      · exact ev_if_neg (by omega) (ev_if_pos (by omega) (ev_if_pos (by omega) b))
    · obtain ⟨r, hr, a, b⟩ := ih (x + 1) o (by omega) (by omega) h2
      exact ⟨r, hr, Ev.step (fun k => by simp only [spec_cmMoves.l1, ex, es]; rfl) (ev_if_pos (by omega) (ev_if_neg (by omega) a)), Ev.step (fun k => by simp only [impl_bites.l1, ex]; rfl) (ev_if_pos (by omega) (ev_if_neg (by omega) (ev_if_neg (by omega) b)))⟩
theorem moves_l0 (l : List Int) (hl : l.length ≤ 6) (hx : ∀ x ∈ l, 1 ≤ x ∧ x ≤ 6) : ∀ (d y : Nat) (o : List (List Int)), y + d = l.length → o.length ≤ 6 * y → (∀ s ∈ o, s.length = 2) →
    ∃ r, FewMoves r ∧ Ev (fun k => spec_cmMoves.l0 k o l (l.length : Int) (y : Int)) r ∧ Ev (fun k => impl_bites.l0 k o l (l.length : Int) (y : Int)) r := by
  intro d
  induction d with
  | zero =>
    intro y o hy ho h2
    exact ⟨o, ⟨by omega, h2⟩, Ev.step (f := fun _ => some o) (fun k => by simp only [spec_cmMoves.l0]; rw [if_neg (by omega)]) (Ev.now _), Ev.step (f := fun _ => some o) (fun k => by simp only [impl_bites.l0]; rw [if_neg (by omega)]) (Ev.now _)⟩
  | succ d ih =>
    intro y o hy ho h2
    have hlt : y < l.length := by omega
    have hb := hx _ (List.getElem_mem hlt)
    have en : rd l (y : Int) = ((l[y].toNat : Nat) : Int) := by rw [rd_lt l y hlt]; omega
    obtain ⟨r, hr, a, b⟩ := moves_l1 l y l[y].toNat (by omega) (by omega) (l.length : Int) (fun o' h1 h3 => ih (y + 1) o' (by omega) (by omega) h3) l[y].toNat 0 o (by omega) (by omega) h2
    refine ⟨r, hr, Ev.step (fun k => by simp only [spec_cmMoves.l0, en]; rfl) (ev_if_pos (by omega) (ev_if_pos (by omega) (ev_if_pos (by omega) a))), Ev.step (fun k => by simp only [impl_bites.l0, en]; rfl) (ev_if_pos (by omega) (ev_if_pos (by omega) (ev_if_pos (by omega) b)))⟩
theorem moves_both (l : List Int) (hn : l.length ≤ 1048576) : ∃ (r : List (List Int)) (b : Bool), FewMoves r ∧ Ev (fun k => spec_ChompMoves.f k l) (r, b) ∧ Ev (fun k => impl_ChompMoves.f k l) (r, b) := by
  obtain ⟨b, hg, hi, hb⟩ := good_both l hn
  cases b with
  | false =>
    refine ⟨[], false, ⟨by simp, fun s hs => by cases hs⟩, ?_, ?_⟩
    · unfold spec_ChompMoves.f
      exact Ev.bind hg (ev_if_neg (by decide) (Ev.now _))
    · unfold impl_ChompMoves.f
      exact Ev.bind hi (ev_if_neg (by decide) (Ev.now _))
  | true =>
    obtain ⟨h1, h6, hx, _⟩ := hb rfl
    obtain ⟨r, hr, a, c⟩ := moves_l0 l h6 hx l.length 0 [] (by omega) (by simp) (fun s hs => by cases hs)
    refine ⟨r, true, hr, ?_, ?_⟩
    · unfold spec_ChompMoves.f
      exact Ev.bind hg (ev_if_pos rfl (Ev.bind (a := r) a (Ev.now _)))
    · unfold impl_ChompMoves.f
      exact Ev.bind hi (ev_if_pos rfl (Ev.bind (a := r) c (Ev.now _)))
theorem FnExactChompMoves (l0 : List Int) (_ : l0.length ≤ maxLen) (_ : l0.length * 8 ≤ 140737488351232) (_ : (∀ x ∈ l0, (Lit.int .i64 x).wf = true)) : ∃ k, laws_FnExactChompMoves.f k l0 = some true := by
  unfold laws_FnExactChompMoves.f
  by_cases hl : l0.length ≤ 1048576
  · obtain ⟨r, b, hr, ⟨k1, hS⟩, ⟨k2, hI⟩⟩ := moves_both l0 hl
    obtain ⟨k3, ht⟩ := toIntS_ev l0 hl
    obtain ⟨k4, he⟩ := eqIntSS_refl r (by have := hr.1; omega) (fun s hs => by have := hr.2 s hs; omega)
    obtain ⟨k5, hei⟩ := eqIntS_refl l0 (by omega)
    obtain ⟨c, l', hc, ⟨k6, hm⟩, ⟨k7, hh⟩⟩ := rows_held r (by have := hr.1; omega) (fun s hs => by have := hr.2 s hs; omega)
    obtain ⟨c2, l2, hc2, ⟨k8, hm2⟩, -⟩ := ints_held l0 (by omega)
    refine ⟨k1 + k2 + k3 + k4 + k5 + k6 + k7 + k8, ?_⟩
    rw [if_neg (show ¬ ((l0.length : Int) > 1048576) by omega), if_pos]
    exact ⟨r, b, c2, l2, c, l', ht _ (by omega), hS _ (by omega), hI _ (by omega), he _ (by omega), hei _ (by omega), hm2 _ (by omega), by omega, hm _ (by omega), hh _ (by omega), by omega⟩
  · exact ⟨0, if_pos (by omega)⟩
end Go.Proofs.Ytfppdfphbphhhaa.Pure
