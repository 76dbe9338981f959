/- The chomp turned: the program counts row by row, the reference column by column: the same, where the rows fall. -/
import Derived.Test.YtfppdfphbphhhaaUW
import Derived.Test.YtfppdfphbphhhaaPx34
import Derived.Test.YtfppdfphbphhhaaPx35
namespace Go.Proofs.Ytfppdfphbphhhaa.Pure
open Go.RowKit Go.Proofs.Ytfppdfphbphhhaa.P Go.Proofs.YtfppdfphbphhhaaW.PrintWords Go.Proofs.YtfppdfphbphhhaaW.PrintLast
/-- How many rows of a list are longer than x. -/
def over (l : List Int) (x : Nat) : Nat := l.countP fun n => decide (n > (x : Int))
theorem falls {l : List Int} (h : ∀ j, 1 ≤ j → j < l.length → rd l (j : Int) ≤ rd l ((j : Int) - 1)) : ∀ (d i : Nat), (hlt : i + d < l.length) → l[i + d] ≤ l[i]'(by omega) := by
  intro d
  induction d with
  | zero => intro i hlt; exact Int.le_refl _
  | succ d ih =>
    intro i hlt
    have h1 := h (i + (d + 1)) (by omega) hlt
    rw [rd_lt l _ hlt, show ((i + (d + 1) : Nat) : Int) - 1 = ((i + d : Nat) : Int) by omega, rd_lt l _ (by omega)] at h1
    exact Int.le_trans h1 (ih i (by omega))

theorem over_split (l : List Int) (x n : Nat) (hn : n ≤ l.length) (h1 : ∀ j, (hj : j < n) → l[j]'(by omega) > (x : Int)) (h2 : ∀ j, n ≤ j → (hj : j < l.length) → ¬ l[j] > (x : Int)) : over l x = n := by
  unfold over
  rw [← List.take_append_drop n l, List.countP_append]
  have a : (l.take n).countP (fun m => decide (m > (x : Int))) = (l.take n).length := by
    rw [List.countP_eq_length]
    intro m hm
    obtain ⟨j, hj, rfl⟩ := List.getElem_of_mem hm
    rw [List.length_take] at hj
    rw [List.getElem_take]
    exact decide_eq_true (h1 j (by omega))
  have b : (l.drop n).countP (fun m => decide (m > (x : Int))) = 0 := by
    rw [List.countP_eq_zero]
    intro m hm
    obtain ⟨j, hj, rfl⟩ := List.getElem_of_mem hm
    rw [List.length_drop] at hj
    rw [List.getElem_drop]
    simpa using h2 (n + j) (by omega) (by omega)
  rw [a, b, List.length_take]
  omega

def cols (l : List Int) (w : Nat) : List Int := (List.range w).map fun x => (over l x : Int)

theorem spec_turn_l1 (l : List Int) (h6 : l.length ≤ 6) (hd : ∀ j, 1 ≤ j → j < l.length → rd l (j : Int) ≤ rd l ((j : Int) - 1)) (o : List Int) (ho : o.length ≤ 6) (x : Nat) (r : List Int × Bool)
    (next : Ev (fun k => spec_TurnChomp.l0 k l (o ++ [(over l x : Int)]) (wrap64 ((x : Int) + 1))) r) :
    ∀ (d n : Nat), n + d = l.length → (∀ j, (hj : j < n) → (hl : j < l.length) → l[j] > (x : Int)) → Ev (fun k => spec_TurnChomp.l1 k l o (x : Int) (n : Int)) r := by
  intro d
  induction d with
  | zero =>
    intro n hn h
    have e : over l x = n := over_split l x n (by omega) (fun j hj => h j hj (by omega)) (fun j h1 h2 => by omega)
    rw [e] at next
    refine Ev.step (fun k => ?_) next
    simp only [spec_TurnChomp.l1]
    rw [if_neg (by omega), if_pos (by omega)]
  | succ d ih =>
    intro n hn h
    by_cases hx : l[n]'(by omega) > (x : Int)
    · refine Ev.step (fun k => ?_) (ih (n + 1) (by omega) (fun j hj hl => ?_))
      · simp only [spec_TurnChomp.l1, rd_lt l n (by omega)]
        rw [if_pos (by omega), if_pos (by omega), if_pos hx, w64 (by omega) (by omega)]
        rfl
      · by_cases hjn : j = n
        · subst hjn
          exact hx
        · exact h j (by omega) hl
    · have e : over l x = n := by
        refine over_split l x n (by omega) (fun j hj => h j hj (by omega)) (fun j h1 h2 => ?_)
        obtain ⟨m, rfl⟩ : ∃ m, j = n + m := ⟨j - n, by omega⟩
        have := falls hd m n h2
        omega
      rw [e] at next
      refine Ev.step (fun k => ?_) next
      simp only [spec_TurnChomp.l1, rd_lt l n (by omega)]
      rw [if_pos (by omega), if_pos (by omega), if_neg hx, if_pos (by omega)]

theorem spec_turn_l0 (l : List Int) (h1 : 1 ≤ l.length) (h6 : l.length ≤ 6) (hd : ∀ j, 1 ≤ j → j < l.length → rd l (j : Int) ≤ rd l ((j : Int) - 1)) (w : Nat) (hw : rd l 0 = (w : Int)) (hw6 : w ≤ 6) :
    ∀ (d x : Nat), x + d = w → Ev (fun k => spec_TurnChomp.l0 k l (cols l x) (x : Int)) (cols l w, true) := by
  intro d
  induction d with
  | zero =>
    intro x hx
    obtain rfl : x = w := by omega
    refine Ev.step (f := fun _ => some (cols l x, true)) (fun k => ?_) (Ev.now _)
    simp only [spec_TurnChomp.l0, hw]
    rw [if_pos (by omega), if_neg (by omega)]
  | succ d ih =>
    intro x hx
    have e : cols l x ++ [(over l x : Int)] = cols l (x + 1) := by
      unfold cols
      rw [List.range_succ, List.map_append]
      rfl
    have next := ih (x + 1) (by omega)
    have s := spec_turn_l1 l h6 hd (cols l x) (by unfold cols; simp; omega) x (cols l w, true) (by rw [e, w64 (by omega) (by omega)]; exact next) l.length 0 (by omega) (fun j hj => by omega)
    refine Ev.step (fun k => ?_) s
    simp only [spec_TurnChomp.l0, hw]
    rw [if_pos (by omega), if_pos (by omega)]
    rfl

/-- One row more: the columns up to its length have one more each. -/
theorem impl_turn_l1 (l : List Int) (w : Nat) (hw6 : w ≤ 6) (i : Nat) (hi : i < l.length) (n : Nat) (hn : l[i] = (n : Int)) (hnw : n ≤ w) (hl6 : l.length ≤ 6) (r : List Int × Bool)
    (next : Ev (fun k => impl_TurnChomp.l0 k (cols (l.take (i + 1)) w) l (l.length : Int) (wrap64 ((i : Int) + 1))) r) :
    ∀ (d x : Nat) (o : List Int), x + d = n → o.length = w → (∀ j, j < w → o[j]? = some (((if j < x then over (l.take (i + 1)) j else over (l.take i) j : Nat)) : Int)) → Ev (fun k => impl_TurnChomp.l1 k o l (l.length : Int) (i : Int) (n : Int) (x : Int)) r := by
  have step : ∀ j, over (l.take (i + 1)) j = over (l.take i) j + (if j < n then 1 else 0) := by
    intro j
    unfold over
    rw [List.take_succ_eq_append_getElem hi, List.countP_append, List.countP_singleton, hn]
    congr 1
    by_cases h : j < n
    · rw [if_pos h, if_pos (by simpa using h)]
    · rw [if_neg h, if_neg (by simpa using h)]
  intro d
  induction d with
  | zero =>
    intro x o hx ho hc
    have e : o = cols (l.take (i + 1)) w := by
      unfold cols
      apply List.ext_getElem?
      intro j
      by_cases hj : j < w
      · rw [hc j hj, List.getElem?_map, List.getElem?_range hj]
        by_cases hjx : j < x
        · rw [if_pos hjx]
          rfl
        · rw [if_neg hjx, Option.map_some, step j, if_neg (by omega)]
          rfl
      · rw [List.getElem?_eq_none (by omega), List.getElem?_eq_none (by simp; omega)]
    subst e
    refine Ev.step (fun k => ?_) next
    simp only [impl_TurnChomp.l1]
    rw [if_neg (by omega)]
  | succ d ih =>
    intro x o hx ho hc
    have hxw : x < w := by omega
    have hox := hc x hxw
    rw [if_neg (by omega)] at hox
    have hle : over (l.take i) x ≤ 6 := by
      unfold over
      have h1 := List.countP_le_length (p := fun n : Int => decide (n > (x : Int))) (l := l.take i)
      rw [List.length_take] at h1
      omega
    refine Ev.step (fun k => ?_) (ih (x + 1) (o.set x ((over (l.take (i + 1)) x : Nat) : Int)) (by omega) (by rw [List.length_set]; exact ho) (fun j hj => ?_))
    · simp only [impl_TurnChomp.l1, Int.toNat_natCast]
      rw [if_pos (by omega), if_pos (by omega), if_pos (by omega), rd_get o x _ hox, w64 (by omega) (by omega), w64 (by omega) (by omega), step x, if_pos (by omega)]
      rfl
    · by_cases hjx : j = x
      · subst hjx
        rw [List.getElem?_set_self (by omega), if_pos (by omega)]
      · rw [List.getElem?_set_ne (by omega), hc j hj]
        by_cases hlt : j < x
        · rw [if_pos hlt, if_pos (by omega)]
        · rw [if_neg hlt, if_neg (by omega)]

theorem impl_turn_l0 (l : List Int) (h6 : l.length ≤ 6) (w : Nat) (hw6 : w ≤ 6) (hb : ∀ i, (hi : i < l.length) → 0 ≤ l[i] ∧ l[i] ≤ (w : Int)) :
    ∀ (d i : Nat), i + d = l.length → Ev (fun k => impl_TurnChomp.l0 k (cols (l.take i) w) l (l.length : Int) (i : Int)) (cols l w, true) := by
  intro d
  induction d with
  | zero =>
    intro i hi
    rw [List.take_of_length_le (by omega)]
    refine Ev.step (f := fun _ => some (cols l w, true)) (fun k => ?_) (Ev.now _)
    simp only [impl_TurnChomp.l0]
    rw [if_neg (by omega)]
  | succ d ih =>
    intro i hi
    have hlt : i < l.length := by omega
    have hbi := hb i hlt
    obtain ⟨n, hn⟩ : ∃ n : Nat, l[i] = (n : Int) := ⟨l[i].toNat, by omega⟩
    have s := impl_turn_l1 l w hw6 i hlt n hn (by omega) h6 (cols l w, true) (by rw [w64 (by omega) (by omega)]; exact ih (i + 1) (by omega)) n 0 (cols (l.take i) w) (by omega) (by unfold cols; simp) (fun j hj => by
      rw [if_neg (by omega)]
      unfold cols
      rw [List.getElem?_map, List.getElem?_range hj]
      rfl)
    refine Ev.step (fun k => ?_) s
    simp only [impl_TurnChomp.l0, rd_lt l i hlt, hn]
    rw [if_pos (by omega), if_pos (by omega), if_pos (by omega)]
    rfl
end Go.Proofs.Ytfppdfphbphhhaa.Pure
