/- Which lists of texts are nuts: the program's way and the reference's say the same. Condition: a list shorter than any machine's memory. -/
import Derived.Test.YthfmfeghipjpdaaDoorUStrs
import Derived.Test.YthfmfeghipjpdaaDoorPx3
import Derived.Test.YthfmfeghipjpdaaDoorOAreNuts
namespace Go.Proofs.YthfmfeghipjpdaaDoor.Pure
open Go.RowKit Go.Proofs.YthfmfeghipjpdaaDoor.P Go.Proofs.YthfmfeghipjpdaaDoorW.PrintWords Go.Proofs.YthfmfeghipjpdaaDoorW.PrintLast
theorem digitB_iff (b : UInt8) : digitB b = decide (48 ≤ b.toNat ∧ b.toNat ≤ 57) := by
  by_cases h : 48 ≤ b.toNat ∧ b.toNat ≤ 57
  · rw [decide_eq_true h]
    have hc : b.toNat = 48 ∨ b.toNat = 49 ∨ b.toNat = 50 ∨ b.toNat = 51 ∨ b.toNat = 52 ∨ b.toNat = 53 ∨ b.toNat = 54 ∨ b.toNat = 55 ∨ b.toNat = 56 ∨ b.toNat = 57 := by omega
    rcases hc with e | e | e | e | e | e | e | e | e | e
    · rw [show b = 48 from UInt8.toNat_inj.1 e]; decide
    · rw [show b = 49 from UInt8.toNat_inj.1 e]; decide
    · rw [show b = 50 from UInt8.toNat_inj.1 e]; decide
    · rw [show b = 51 from UInt8.toNat_inj.1 e]; decide
    · rw [show b = 52 from UInt8.toNat_inj.1 e]; decide
    · rw [show b = 53 from UInt8.toNat_inj.1 e]; decide
    · rw [show b = 54 from UInt8.toNat_inj.1 e]; decide
    · rw [show b = 55 from UInt8.toNat_inj.1 e]; decide
    · rw [show b = 56 from UInt8.toNat_inj.1 e]; decide
    · rw [show b = 57 from UInt8.toNat_inj.1 e]; decide
  · rw [decide_eq_false h]
    cases hd : digitB b with
    | false => rfl
    | true =>
      exfalso
      apply h
      unfold digitB at hd
      simp only [List.contains_eq_mem, List.mem_cons, List.not_mem_nil, or_false, decide_eq_true_eq] at hd
      rcases hd with rfl | rfl | rfl | rfl | rfl | rfl | rfl | rfl | rfl | rfl <;> decide
theorem bt_lt (s : ByteArray) (i : Nat) (h : i < s.size) : bt s (i : Int) = ((s.data.toList[i]'h).toNat : Int) := by
  unfold bt
  rw [dif_pos (by simpa using h)]
  rfl
def rowOk (n : Nat) (s : ByteArray) : Bool := decide (s.size = n) && s.data.toList.all digitB

theorem ntGood_l1 (x : List ByteArray) (s : ByteArray) (hs : s.size ≤ 1048576) (L : List ByteArray) (n q : Int) (r : Bool) (next : Ev (fun k => spec_ntGood.l0 k x L n (wrap64 (q + 1))) r) :
    ∀ (d i : Nat), i + d = s.size → Ev (fun k => spec_ntGood.l1 k x s (i : Int) L n q) ((s.data.toList.drop i).all digitB && r) := by
  intro d
  have hlen : s.data.toList.length = s.size := rfl
  induction d with
  | zero =>
    intro i hi
    rw [List.drop_of_length_le (by omega)]
    refine Ev.step (fun k => ?_) next
    simp only [spec_ntGood.l1]
    rw [if_neg (by omega)]
  | succ d ih =>
    intro i hi
    have hlt : i < s.size := by omega
    rw [List.drop_eq_getElem_cons (show i < s.data.toList.length by omega), List.all_cons, digitB_iff]
    have hb := bt_lt s i hlt
    generalize (s.data.toList[i]'hlt) = b at hb
    by_cases h1 : b.toNat < 48
    · rw [decide_eq_false (by omega), Bool.false_and, Bool.false_and]
      refine Ev.step (f := fun _ => some false) (fun k => ?_) (Ev.now _)
      simp only [spec_ntGood.l1, hb]
      rw [if_pos (by omega), if_pos (by omega), if_pos (by omega)]
    · by_cases h2 : b.toNat > 57
      · rw [decide_eq_false (by omega), Bool.false_and, Bool.false_and]
        refine Ev.step (f := fun _ => some false) (fun k => ?_) (Ev.now _)
        simp only [spec_ntGood.l1, hb]
        rw [if_pos (by omega), if_pos (by omega), if_neg (by omega), if_pos (by omega)]
      · rw [decide_eq_true (by omega), Bool.true_and]
        refine Ev.step (fun k => ?_) (ih (i + 1) (by omega))
        simp only [spec_ntGood.l1, hb]
        rw [if_pos (by omega), if_pos (by omega), if_neg (by omega), if_neg (by omega), w64 (by omega) (by omega)]
        rfl

theorem ntGood_l0 (l : List ByteArray) (hn : l.length ≤ 1048576) (hs : ∀ s ∈ l, s.size ≤ 1048576) (n : Nat) (h0 : (rdOf ByteArray.empty l 0).size = n) (hp : 0 < l.length) : ∀ (d i : Nat), i + d = l.length → Ev (fun k => spec_ntGood.l0 k l l (l.length : Int) (i : Int)) ((l.drop i).all (rowOk n)) := by
  intro d
  induction d with
  | zero =>
    intro i hi
    rw [List.drop_of_length_le (by omega)]
    refine Ev.step (f := fun _ => some true) (fun k => ?_) (Ev.now _)
    simp only [spec_ntGood.l0]
    rw [if_neg (by omega)]
  | succ d ih =>
    intro i hi
    have hlt : i < l.length := by omega
    rw [List.drop_eq_getElem_cons hlt, List.all_cons]
    unfold rowOk
    by_cases h : l[i].size = n
    · rw [decide_eq_true h, Bool.true_and]
      have s := ntGood_l1 l l[i] (hs _ (List.getElem_mem hlt)) l (l.length : Int) (i : Int) ((l.drop (i + 1)).all (rowOk n)) (by rw [w64 (by omega) (by omega)]; exact ih (i + 1) (by omega)) l[i].size 0 (by omega)
      rw [List.drop_zero] at s
      refine Ev.step (fun k => ?_) s
      simp only [spec_ntGood.l0, rs_lt l i hlt, h0]
      rw [if_pos (by omega), if_pos (by omega), if_pos (by omega), if_pos (by omega), if_pos (by omega)]
      rfl
    · rw [decide_eq_false h, Bool.false_and, Bool.false_and]
      refine Ev.step (f := fun _ => some false) (fun k => ?_) (Ev.now _)
      simp only [spec_ntGood.l0, rs_lt l i hlt, h0]
      rw [if_pos (by omega), if_pos (by omega), if_pos (by omega), if_pos (by omega), if_neg (by omega)]

/-- What nuts are: so many rows, each of so many digits. -/
structure Nuts (l : List ByteArray) (w : Nat) : Prop where
  rows1 : 1 ≤ l.length
  rows8 : l.length ≤ 8
  wide1 : 1 ≤ w
  wide8 : w ≤ 8
  wide : ∀ s ∈ l, s.size = w
  digit : ∀ s ∈ l, ∀ b ∈ s.data.toList, 48 ≤ b.toNat ∧ b.toNat ≤ 57

theorem not_any_not (p : ByteArray → Bool) : ∀ l : List ByteArray, (!(l.any fun s => !p s)) = l.all p
  | [] => rfl
  | x :: l => by rw [List.any_cons, List.all_cons, Bool.not_or, Bool.not_not, not_any_not p l]

theorem nutsB_eq (l : List ByteArray) (hp : 0 < l.length) : nutsB l = (decide (1 ≤ (l.length : Int) ∧ (l.length : Int) ≤ 8) && (decide ((1 : Int) ≤ ((l[0]).size : Int) ∧ ((l[0]).size : Int) ≤ (8 : Int)) && l.all (rowOk l[0].size))) := by
  unfold nutsB
  congr 1
  rw [getElem!_pos l 0 hp]
  generalize hn : l[0].size = n
  have h1 : (!l.any (badRow (n : Int) 8)) = l.all fun s => (decide ((s.size : Int) = (n : Int)) && (decide (1 ≤ (s.size : Int) ∧ (s.size : Int) ≤ 8) && s.data.toList.all digitB)) := by
    exact not_any_not _ l
  rw [h1]
  by_cases hb : 1 ≤ (n : Int) ∧ (n : Int) ≤ 8
  · rw [decide_eq_true hb, Bool.true_and]
    have : ∀ s : ByteArray, (decide ((s.size : Int) = (n : Int)) && (decide (1 ≤ (s.size : Int) ∧ (s.size : Int) ≤ 8) && s.data.toList.all digitB)) = rowOk n s := by
      intro s
      unfold rowOk
      by_cases e : s.size = n
      · rw [decide_eq_true e, decide_eq_true (by omega), decide_eq_true (by omega), Bool.true_and]
      · rw [decide_eq_false e, decide_eq_false (by omega), Bool.false_and, Bool.false_and]
    simp only [this]
  · rw [decide_eq_false hb, Bool.false_and]
    rw [List.all_eq_false]
    refine ⟨l[0], List.getElem_mem hp, ?_⟩
    rw [hn, decide_eq_false hb]
    simp

theorem size_le_sizes : ∀ (l : List ByteArray) (s : ByteArray), s ∈ l → s.size ≤ sizes l
  | x :: l, s, h => by
    have e : sizes (x :: l) = x.size + sizes l := rfl
    rcases List.mem_cons.1 h with rfl | h
    · omega
    · have := size_le_sizes l s h
      omega
theorem good_both (l : List ByteArray) (hn : l.length ≤ 1048576) (hz : sizes l ≤ 1048576) : ∃ b : Bool, Ev (fun k => spec_ntGood.f k l) b ∧ impl_AreNuts.f l = some b ∧ (b = true → ∃ w, Nuts l w) := by
  have hs : ∀ s ∈ l, s.size ≤ 1048576 := by
    intro s hs
    have : s.size ≤ sizes l := by
      exact size_le_sizes l s hs
    omega
  have hI : impl_AreNuts.f l = some (nutsB l) := by
    unfold impl_AreNuts.f
    rw [if_pos]
    rw [List.all_eq_true]
    intro s h
    have := hs s h
    exact decide_eq_true (by omega)
  refine ⟨nutsB l, ?_, hI, ?_⟩
  · unfold spec_ntGood.f
    simp only [l1In_some, Option.bind_some]
    by_cases h : 1 ≤ (l.length : Int) ∧ (l.length : Int) ≤ 8
    · have hp : 0 < l.length := by omega
      have h0 : rdOf ByteArray.empty l 0 = l[0] := rs_lt l 0 hp
      rw [nutsB_eq l hp, decide_eq_true h, Bool.true_and]
      simp only [if_true, h0, if_pos (show 0 < (l.length : Int) by omega)]
      by_cases h2 : (1 : Int) ≤ ((l[0]).size : Int) ∧ ((l[0]).size : Int) ≤ (8 : Int)
      · rw [decide_eq_true h2, Bool.true_and]
        have s := ntGood_l0 l hn hs l[0].size (by rw [h0]) hp l.length 0 (by omega)
        rw [List.drop_zero] at s
        exact Ev.step (fun k => by simp only [spec_ntGood.j0, Bool.not_true, Bool.false_eq_true, if_false]; rfl) s
      · rw [decide_eq_false h2, Bool.false_and]
        exact Ev.step (fun k => by simp only [spec_ntGood.j0, Bool.not_false, if_true]) (Ev.now _)
    · have : nutsB l = false := by
        unfold nutsB
        rw [decide_eq_false h, Bool.false_and]
      rw [this, decide_eq_false h]
      simp only [Bool.false_eq_true, if_false]
      exact Ev.step (fun k => by simp only [spec_ntGood.j0, if_true]) (Ev.now _)
  · intro h
    have hp : 0 < l.length := by
      unfold nutsB at h
      rw [Bool.and_eq_true, decide_eq_true_eq] at h
      omega
    rw [nutsB_eq l hp] at h
    simp only [Bool.and_eq_true, decide_eq_true_eq, List.all_eq_true] at h
    obtain ⟨h1, h2, h3⟩ := h
    refine ⟨l[0].size, by omega, by omega, by omega, by omega, fun s hs' => ?_, fun s hs' b hb => ?_⟩
    · have := h3 s hs'
      unfold rowOk at this
      rw [Bool.and_eq_true, decide_eq_true_eq] at this
      exact this.1
    · have := h3 s hs'
      unfold rowOk at this
      rw [Bool.and_eq_true, List.all_eq_true] at this
      have := this.2 b hb
      rw [digitB_iff, decide_eq_true_eq] at this
      exact this
end Go.Proofs.YthfmfeghipjpdaaDoor.Pure
