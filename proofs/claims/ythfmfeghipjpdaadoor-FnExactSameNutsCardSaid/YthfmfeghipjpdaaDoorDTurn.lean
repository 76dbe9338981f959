/- Nuts turned: the reference's loops build the columns, each read from the last row up. -/
import Derived.Test.YthfmfeghipjpdaaDoorDNuts
import Derived.Test.YthfmfeghipjpdaaDoorOTurn
import Derived.Test.YthfmfeghipjpdaaDoorOTurnS
namespace Go.Proofs.YthfmfeghipjpdaaDoor.Pure
open Go.RowKit Go.Proofs.YthfmfeghipjpdaaDoor.P Go.Proofs.YthfmfeghipjpdaaDoorW.PrintWords Go.Proofs.YthfmfeghipjpdaaDoorW.PrintLast
theorem turn_bytes {a b : ByteArray} (h : a.data.toList = b.data.toList) : a = b := by
  cases a with | mk a =>
  cases b with | mk b =>
  congr 1
  exact Array.ext' h
theorem turn_size (xs : List Int) : (strOfNums xs).size = xs.length := by
  unfold strOfNums
  simp [ByteArray.size]
theorem ascii_first {l : List ByteArray} {w : Nat} (h : Nuts l w) : asciiB (rdOf ByteArray.empty l 0) = true := by
  have hp := h.rows1
  have e : rdOf ByteArray.empty l 0 = l[0] := rs_lt l 0 (by omega)
  rw [e]
  have hs := h.wide l[0] (List.getElem_mem (by omega))
  have w8 := h.wide8
  unfold asciiB
  rw [Bool.and_eq_true, decide_eq_true_eq, List.all_eq_true]
  refine ⟨by omega, fun b hb => ?_⟩
  have := h.digit l[0] (List.getElem_mem (by omega)) b hb
  rw [decide_eq_true_eq]
  omega
theorem one_more (A : List Int) (s : ByteArray) (x : Nat) (hx : x < s.size) : strOfNums A ++ s.extract x (x + 1) = strOfNums (A ++ [bt s (x : Int)]) := by
  have hl : s.size = s.data.toList.length := Lib.size_eq s
  refine turn_bytes ?_
  rw [ByteArray.data_append, Array.toList_append, Lib.extract_data, bt_lt s x hx]
  unfold strOfNums
  simp only [List.map_append, List.map_cons, List.map_nil]
  congr 1
  rw [show x + 1 - x = 1 by omega, List.drop_eq_getElem_cons (by omega : x < s.data.toList.length)]
  simp
theorem turn_l1 {l : List ByteArray} {w : Nat} (h : Nuts l w) (x : Nat) (hx : x < w) (o : List ByteArray) (ho : o.length ≤ 8) (r : List ByteArray) (next : Ev (fun k => spec_ntTurn.l0 k l (o ++ [strOfNums (colB l x)]) (w : Int) ((x + 1 : Nat) : Int)) r) :
    ∀ m : Nat, m ≤ l.length → Ev (fun k => spec_ntTurn.l1 k l o (x : Int) (strOfNums ((l.drop m).reverse.map fun s => bt s (x : Int))) ((m : Int) - 1) (w : Int) (x : Int)) r := by
  have hl8 := h.rows8
  have w8 := h.wide8
  have e1 : wrap64 ((x : Int) + 1) = ((x + 1 : Nat) : Int) := by rw [w64 (by omega) (by omega)]; rfl
  intro m
  induction m with
  | zero =>
    intro _
    refine Ev.step (fun k => by simp only [spec_ntTurn.l1]; rfl) (ev_if_neg (by omega) (ev_if_pos (by omega) ?_))
    rw [e1]
    exact next
  | succ m ih =>
    intro hm
    have hlt : m < l.length := by omega
    have hs := h.wide l[m] (List.getElem_mem hlt)
    have hr : rdOf ByteArray.empty l (m : Int) = l[m] := rs_lt l m hlt
    rw [show ((m + 1 : Nat) : Int) - 1 = (m : Int) by omega]
    have hsz : ((l[m]).extract x (x + 1)).size = 1 := by rw [ByteArray.size_extract]; omega
    have hz : (strOfNums ((l.drop (m + 1)).reverse.map fun s => bt s (x : Int))).size ≤ 8 := by rw [turn_size]; simp; omega
    refine Ev.step (fun k => by simp only [spec_ntTurn.l1]; rfl) (ev_if_pos (by omega) (ev_if_pos (by omega) (ev_if_pos (by omega) (ev_if_pos (by omega) (ev_if_pos (by omega) (ev_if_pos (by rw [hr]; omega) (ev_if_pos ?_ ?_)))))))
    · rw [hr, e1, Int.toNat_natCast, Int.toNat_natCast, hsz]
      omega
    · have acc : strOfNums ((l.drop (m + 1)).reverse.map fun s => bt s (x : Int)) ++ (l[m]).extract x (x + 1) = strOfNums ((l.drop m).reverse.map fun s => bt s (x : Int)) := by
        rw [one_more _ _ _ (by omega), List.drop_eq_getElem_cons hlt, List.reverse_cons, List.map_append]
        rfl
      rw [hr, e1, Int.toNat_natCast, Int.toNat_natCast, acc, show wrap64 ((m : Int) - 1) = (m : Int) - 1 from w64 (by omega) (by omega)]
      exact ih (by omega)
theorem turn_l0 {l : List ByteArray} {w : Nat} (h : Nuts l w) : ∀ (d x : Nat), x + d = w → Ev (fun k => spec_ntTurn.l0 k l ((turnB l w).take x) (w : Int) (x : Int)) (turnB l w) := by
  have hl8 := h.rows8
  have w8 := h.wide8
  have hlen : (turnB l w).length = w := by simp [turnB]
  intro d
  induction d with
  | zero =>
    intro x hx
    refine Ev.step (f := fun _ => some ((turnB l w).take x)) (fun k => by simp only [spec_ntTurn.l0]; rw [if_neg (by omega)]) ?_
    rw [List.take_of_length_le (by omega)]
    exact Ev.now _
  | succ d ih =>
    intro x hx
    have next := ih (x + 1) (by omega)
    have hkl : x < (turnB l w).length := by omega
    have e1 : (turnB l w)[x] = strOfNums (colB l x) := by simp [turnB]
    rw [List.take_succ_eq_append_getElem hkl, e1] at next
    have a := turn_l1 h x (by omega) ((turnB l w).take x) (by rw [List.length_take]; omega) _ next l.length (Nat.le_refl _)
    rw [List.drop_length] at a
    refine Ev.step (fun k => by simp only [spec_ntTurn.l0]; rfl) (ev_if_pos (by omega) ?_)
    rw [show wrap64 ((l.length : Int) - 1) = (l.length : Int) - 1 from w64 (by omega) (by omega)]
    exact a
theorem spec_turn_ev {l : List ByteArray} {w : Nat} (h : Nuts l w) : Ev (fun k => spec_ntTurn.f k l) (turnB l w) := by
  have hp := h.rows1
  unfold spec_ntTurn.f
  refine ev_if_pos (by omega) (ev_if_pos (ascii_first h) ?_)
  have e : (rdOf ByteArray.empty l 0).size = w := by
    have e0 : rdOf ByteArray.empty l 0 = l[0] := rs_lt l 0 (by omega)
    rw [e0]
    exact h.wide _ (List.getElem_mem _)
  rw [e]
  exact turn_l0 h w 0 (by omega)
theorem impl_turn_some {l : List ByteArray} {w : Nat} (h : Nuts l w) : impl_turned.f l = some (turnB l w) := by
  have hp := h.rows1
  have e : (l[0]!).size = w := by
    rw [getElem!_pos l 0 (by omega)]
    exact h.wide _ (List.getElem_mem _)
  unfold impl_turned.f
  rw [e, if_pos ⟨h.rows1, h.rows8, h.wide1, h.wide8, List.all_eq_true.2 fun s hs => beq_iff_eq.2 (h.wide s hs)⟩]
end Go.Proofs.YthfmfeghipjpdaaDoor.Pure
