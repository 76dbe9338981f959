/- Rows of numbers: compared with themselves, marked and held. Conditions: as each states. -/
import Derived.Test.YthlnpbdjblocfaaUInts
import Derived.Test.YthlnpbdjblocfaaUMarks
import Derived.Test.YthlnpbdjblocfaaOMarkSSb
import Derived.Test.YthlnpbdjblocfaaPx55
import Derived.Test.YthlnpbdjblocfaaPx59
namespace Go.Proofs.Ythlnpbdjblocfaa.Pure
open Go.RowKit Go.Proofs.Ythlnpbdjblocfaa.P Go.Proofs.YthlnpbdjblocfaaW.PrintWords Go.Proofs.YthlnpbdjblocfaaW.PrintLast
set_option linter.unusedVariables false
set_option linter.unusedSimpArgs false
theorem rdL_lt (l : List (List Int)) (i : Nat) (h : i < l.length) : rd_L1 l (i : Int) = l[i] := by
  unfold rd_L1
  rw [Int.toNat_natCast, List.getD_eq_getElem?_getD, List.getElem?_eq_getElem h]
  rfl
theorem eqIntSS_l0 (l : List (List Int)) (hn : l.length ≤ 1000000) (hr : ∀ s ∈ l, s.length ≤ 1000000) : ∀ (d i : Nat), i + d = l.length → Ev (fun k => laws_eqIntSS.l0 k l l (i : Int)) true := by
  intro d
  induction d with
  | zero =>
    intro i hi
    refine Ev.step (f := fun _ => some true) (fun k => by simp only [laws_eqIntSS.l0]; rw [if_neg (by omega)]) (Ev.now _)
  | succ d ih =>
    intro i hi
    have h1 := hr _ (List.getElem_mem (show i < l.length by omega))
    refine Ev.step (fun k => by simp only [laws_eqIntSS.l0, rdL_lt l i (by omega)]; rfl) (ev_if_pos (by omega) (ev_if_pos (by omega) (ev_if_pos (by omega) (Ev.bind (eqIntS_refl l[i] (by omega)) (ev_if_pos rfl ?_)))))
    rw [show wrap64 ((i : Int) + 1) = ((i + 1 : Nat) : Int) by rw [w64 (by omega) (by omega)]; rfl]
    exact ih (i + 1) (by omega)
theorem eqIntSS_refl (l : List (List Int)) (hn : l.length ≤ 1000000) (hr : ∀ s ∈ l, s.length ≤ 1000000) : Ev (fun k => laws_eqIntSS.f k l l) true := by
  have := eqIntSS_l0 l hn hr l.length 0 (by omega)
  unfold laws_eqIntSS.f
  exact ev_if_pos rfl this
def lens : List (List Int) → Nat
  | [] => 0
  | s :: r => s.length + lens r
def marksSS : List (List Int) → Nat → List (List Int)
  | [], _ => []
  | s :: r, c => marks s.length c :: marksSS r (c + s.length)
theorem marksSS_len : ∀ (l : List (List Int)) (c : Nat), (marksSS l c).length = l.length
  | [], _ => rfl
  | s :: r, c => by simp [marksSS, marksSS_len r]
theorem lens_le : ∀ (l : List (List Int)), (∀ s ∈ l, s.length ≤ 1000) → lens l ≤ 1000 * l.length
  | [], _ => Nat.le_refl _
  | s :: r, h => by
    have a := h s List.mem_cons_self
    have b := lens_le r (fun x hx => h x (List.mem_cons_of_mem _ hx))
    simp only [lens, List.length_cons]
    omega
theorem markIntSS_l0 : ∀ (d i : Nat) (l : List (List Int)) (c : Nat), l.length = i + d → l.length ≤ 1000000 → (∀ s ∈ l.drop i, s.length ≤ 1000) → c ≤ 1000 * i + 1 →
    Ev (fun k => laws_markIntSS.l0 k l (c : Int) (i : Int)) (((c + lens (l.drop i) : Nat) : Int), l.take i ++ marksSS (l.drop i) c) := by
  intro d
  induction d with
  | zero =>
    intro i l c hl hn hs hc
    rw [List.drop_of_length_le (by omega), List.take_of_length_le (by omega)]
    refine Ev.step (f := fun _ => some (((c + lens [] : Nat) : Int), l ++ marksSS [] c)) (fun k => ?_) (Ev.now _)
    simp only [laws_markIntSS.l0]
    rw [if_neg (by omega)]
    simp [lens, marksSS]
  | succ d ih =>
    intro i l c hl hn hs hc
    have hi : i < l.length := by omega
    have h1 : l[i].length ≤ 1000 := hs _ (by rw [List.drop_eq_getElem_cons hi]; exact List.mem_cons_self)
    have hdrop : (l.set i (marks l[i].length c)).drop (i + 1) = l.drop (i + 1) := by rw [List.drop_set_of_lt (by omega)]
    have next := ih (i + 1) (l.set i (marks l[i].length c)) (c + l[i].length) (by rw [List.length_set]; omega) (by rw [List.length_set]; omega) (fun s hs' => hs s (by rw [hdrop] at hs'; rw [List.drop_eq_getElem_cons hi]; exact List.mem_cons_of_mem _ hs')) (by omega)
    rw [hdrop, List.take_succ_eq_append_getElem (by rw [List.length_set]; omega), List.getElem_set_self, List.take_set_of_le (by omega)] at next
    rw [show c + l[i].length + lens (l.drop (i + 1)) = c + lens (l.drop i) by rw [List.drop_eq_getElem_cons hi]; simp only [lens]; omega] at next
    rw [show l.take i ++ [marks l[i].length c] ++ marksSS (l.drop (i + 1)) (c + l[i].length) = l.take i ++ marksSS (l.drop i) c by rw [List.drop_eq_getElem_cons hi]; simp [marksSS]] at next
    have mk := markIntS_ev l[i] c (by omega) (by omega)
    refine Ev.step (fun k => by simp only [laws_markIntSS.l0, rdL_lt l i hi, Int.toNat_natCast]; rfl) (ev_if_pos (by omega) (ev_if_pos (by omega) (Ev.bind mk ?_)))
    rw [show wrap64 ((i : Int) + 1) = ((i + 1 : Nat) : Int) by rw [w64 (by omega) (by omega)]; rfl]
    exact next
theorem heldIntSS_l0 (L : List (List Int)) (hn : L.length ≤ 1000000) : ∀ (r : List (List Int)) (i c : Nat), L.length = i + r.length → L.drop i = marksSS r c → (∀ s ∈ r, s.length ≤ 1000) → c ≤ 1000 * i + 1 →
    Ev (fun k => laws_heldIntSS.l0 k L (c : Int) (i : Int)) ((c + lens r : Nat) : Int) := by
  intro r
  induction r with
  | nil =>
    intro i c hl hd hs hc
    refine Ev.step (f := fun _ => some ((c + lens [] : Nat) : Int)) (fun k => ?_) (Ev.now _)
    simp only [laws_heldIntSS.l0]
    rw [if_neg (by simp at hl; omega)]
    simp [lens]
  | cons s r ih =>
    intro i c hl hd hs hc
    simp only [List.length_cons] at hl
    have hi : i < L.length := by omega
    have hs1 := hs s List.mem_cons_self
    rw [List.drop_eq_getElem_cons hi] at hd
    simp only [marksSS, List.cons.injEq] at hd
    have next := ih (i + 1) (c + s.length) (by omega) hd.2 (fun x hx => hs x (List.mem_cons_of_mem _ hx)) (by omega)
    rw [show c + s.length + lens r = c + lens (s :: r) by simp only [lens]; omega] at next
    have hh := heldIntS_ev s.length c (by omega) (by omega)
    rw [← hd.1, ← rdL_lt L i hi] at hh
    refine Ev.step (fun k => by simp only [laws_heldIntSS.l0]; rfl) (ev_if_pos (by omega) (ev_if_pos (by omega) (Ev.bind hh (ev_if_neg (Int.not_lt.2 (Int.natCast_nonneg _)) ?_))))
    rw [show wrap64 ((i : Int) + 1) = ((i + 1 : Nat) : Int) by rw [w64 (by omega) (by omega)]; rfl]
    exact next
theorem rows_held (l : List (List Int)) (hn : l.length ≤ 1000000) (hs : ∀ s ∈ l, s.length ≤ 1000) : ∃ (c : Int) (l' : List (List Int)), 0 ≤ c ∧ Ev (fun k => laws_markIntSS.f k l 1) (c, l') ∧ Ev (fun k => laws_heldIntSS.f k l' 1) c := by
  have a := markIntSS_l0 l.length 0 l 1 (by omega) hn hs (by omega)
  have b := heldIntSS_l0 (marksSS l 1) (by rw [marksSS_len]; omega) l 0 1 (by rw [marksSS_len]; omega) rfl hs (by omega)
  rw [List.take_zero, List.nil_append, List.drop_zero] at a
  exact ⟨_, _, by omega, a, b⟩
end Go.Proofs.Ythlnpbdjblocfaa.Pure
