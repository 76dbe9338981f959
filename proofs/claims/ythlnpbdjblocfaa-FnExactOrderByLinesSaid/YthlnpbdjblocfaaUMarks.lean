/- Lists of numbers: marked, and held as marked. Condition: a list shorter than any machine's memory. -/
import Derived.Test.YthlnpbdjblocfaaUW
import Derived.Test.YthlnpbdjblocfaaPx56
import Derived.Test.YthlnpbdjblocfaaPx58
namespace Go.Proofs.Ythlnpbdjblocfaa.Pure
open Go.RowKit Go.Proofs.Ythlnpbdjblocfaa.P Go.Proofs.YthlnpbdjblocfaaW.PrintWords Go.Proofs.YthlnpbdjblocfaaW.PrintLast
theorem markIntS_l0 : ∀ (d i : Nat) (l : List Int) (c : Nat), l.length = i + d → l.length ≤ 1000000000000 → c + d ≤ 4000000000000 → ∀ k, d < k →
    laws_markIntS.l0 k l (c : Int) (i : Int) = some (((c + d : Nat) : Int), l.take i ++ (List.range d).map (fun j => ((c + j : Nat) : Int))) := by
  intro d
  induction d with
  | zero =>
    intro i l c hl hn hc k hk
    obtain ⟨m, rfl⟩ : ∃ m, k = m + 1 := ⟨k - 1, by omega⟩
    simp only [laws_markIntS.l0]
    rw [if_neg (by omega), List.take_of_length_le (by omega)]
    simp
  | succ d ih =>
    intro i l c hl hn hc k hk
    obtain ⟨m, rfl⟩ : ∃ m, k = m + 1 := ⟨k - 1, by omega⟩
    simp only [laws_markIntS.l0, Int.toNat_natCast]
    rw [if_pos (by omega), if_pos (by omega), w64 (x := (c : Int) + 1) (by omega) (by omega), w64 (x := (i : Int) + 1) (by omega) (by omega)]
    have := ih (i + 1) (l.set i (c : Int)) (c + 1) (by rw [List.length_set]; omega) (by rw [List.length_set]; omega) (by omega) m (by omega)
    rw [show c + 1 + d = c + (d + 1) by omega] at this
    have e : (l.set i (c : Int)).take (i + 1) ++ (List.range d).map (fun j => ((c + 1 + j : Nat) : Int)) = l.take i ++ (List.range (d + 1)).map (fun j => ((c + j : Nat) : Int)) := by
      rw [List.take_succ_eq_append_getElem (by rw [List.length_set]; omega), List.getElem_set_self, List.take_set_of_le (by omega), List.append_assoc, List.range_succ_eq_map, List.map_cons, List.map_map]
      congr 1
      rw [List.singleton_append]
      congr 1
      refine List.map_congr_left fun j _ => ?_
      simp only [Function.comp]
      omega
    rw [e] at this
    exact this
theorem heldIntS_l0 : ∀ (d i : Nat) (l : List Int) (c : Nat), l.length = i + d → l.length ≤ 1000000000000 → c + d ≤ 4000000000000 →
    (∀ j, j < d → l[i + j]? = some ((c + j : Nat) : Int)) → ∀ k, d < k → laws_heldIntS.l0 k l (c : Int) (i : Int) = some ((c + d : Nat) : Int) := by
  intro d
  induction d with
  | zero =>
    intro i l c hl hn hc h k hk
    obtain ⟨m, rfl⟩ : ∃ m, k = m + 1 := ⟨k - 1, by omega⟩
    simp only [laws_heldIntS.l0]
    rw [if_neg (by omega)]
    simp
  | succ d ih =>
    intro i l c hl hn hc h k hk
    obtain ⟨m, rfl⟩ : ∃ m, k = m + 1 := ⟨k - 1, by omega⟩
    have h0 := h 0 (by omega)
    rw [Nat.add_zero] at h0
    simp only [laws_heldIntS.l0]
    rw [if_pos (by omega), if_pos (by omega), rd_get _ _ _ h0, if_pos (by simp), w64 (x := (c : Int) + 1) (by omega) (by omega), w64 (x := (i : Int) + 1) (by omega) (by omega)]
    rw [show c + (d + 1) = c + 1 + d by omega]
    refine ih (i + 1) l (c + 1) (by omega) hn (by omega) (fun j hj => ?_) m (by omega)
    rw [show i + 1 + j = i + (j + 1) by omega, h (j + 1) (by omega), show c + (j + 1) = c + 1 + j by omega]
def marks (n c : Nat) : List Int := (List.range n).map (fun j => ((c + j : Nat) : Int))
theorem marks_get (n c j : Nat) (h : j < n) : (marks n c)[j]? = some ((c + j : Nat) : Int) := by
  unfold marks
  simp [h]
theorem markIntS_ev (l : List Int) (c : Nat) (hn : l.length ≤ 1000000000000) (hc : c ≤ 1000000000000) : Ev (fun k => laws_markIntS.f k l (c : Int)) (((c + l.length : Nat) : Int), marks l.length c) := by
  refine ⟨l.length + 1, fun k hk => ?_⟩
  have := markIntS_l0 l.length 0 l c (by omega) hn (by omega) k (by omega)
  rwa [List.take_zero, List.nil_append] at this
theorem heldIntS_ev (n c : Nat) (hn : n ≤ 1000000000000) (hc : c ≤ 1000000000000) : Ev (fun k => laws_heldIntS.f k (marks n c) (c : Int)) ((c + n : Nat) : Int) := by
  have hl : (marks n c).length = n := by simp [marks]
  refine ⟨n + 1, fun k hk => ?_⟩
  exact heldIntS_l0 n 0 (marks n c) c (by omega) (by omega) (by omega) (fun j hj => by rw [Nat.zero_add]; exact marks_get n c j hj) k (by omega)
/-- What is marked, and what is held behind it. -/
theorem ints_held (l : List Int) (hn : l.length ≤ 1000000000000) : ∃ (c : Int) (l' : List Int), 0 ≤ c ∧ Ev (fun k => laws_markIntS.f k l 1) (c, l') ∧ Ev (fun k => laws_heldIntS.f k l' 1) c :=
  ⟨_, _, by omega, markIntS_ev l 1 hn (by omega), heldIntS_ev l.length 1 hn (by omega)⟩
end Go.Proofs.Ythlnpbdjblocfaa.Pure
