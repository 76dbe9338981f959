/- Lists of texts: measured, copied, compared with themselves. Condition: a list shorter than any machine's memory. | Which lists of texts are nuts: the program's way and the reference's say the same. Condition: a list shorter than any machine's memory. | How many nuts are in a part: the program's sum and the reference's are one. Conditions: nuts, a part inside. | The strips of nuts: what the reference's own functions come to. Conditions: nuts; one to five sharers. | The strips of nuts: the program's own functions and the reference's are one. Conditions: as each states. | Lists of numbers: compared with themselves. Condition: a list shorter than any machine's memory. | Lists of numbers: marked, and held as marked. Condition: a list shorter than any machine's memory. | Lists of texts: marked, and held as marked. Condition: a list shorter than any machine's memory. | FirstStrips of the program answers as the reference's, for all lists of texts and numbers; its argument is not held, and what it hands back is memory of its own. -/
import Derived.Test.YtedpdfmaccoinaaDoorOStrips
import Derived.Test.YtedpdfmaccoinaaDoorPx7
import Derived.Test.YtedpdfmaccoinaaDoorPx17
import Derived.Test.YtedpdfmaccoinaaDoorPx1
import Derived.Test.YtedpdfmaccoinaaDoorPx3
import Derived.Test.YtedpdfmaccoinaaDoorOAreNuts
import Derived.Test.YtedpdfmaccoinaaDoorPx4
import Derived.Test.YtedpdfmaccoinaaDoorPx15
import Derived.Test.YtedpdfmaccoinaaDoorPx50
import Derived.Test.YtedpdfmaccoinaaDoorPx47
import Derived.Test.YtedpdfmaccoinaaDoorPx53
import Derived.Test.YtedpdfmaccoinaaDoorPx51
import Derived.Test.YtedpdfmaccoinaaDoorPx54
import Derived.Test.YtedpdfmaccoinaaDoorPx48
import Derived.Test.YtedpdfmaccoinaaDoorPx39
import Derived.Test.YtedpdfmaccoinaaDoorPx42
import Derived.Test.YtedpdfmaccoinaaDoorPx43
import Derived.Test.YtedpdfmaccoinaaDoorPx41
import Derived.Test.YtedpdfmaccoinaaDoorPx55
namespace Go.Proofs.YtedpdfmaccoinaaDoor.Pure
open Go.RowKit Go.Proofs.YtedpdfmaccoinaaDoor.P Go.Proofs.YtedpdfmaccoinaaDoorW.PrintWords Go.Proofs.YtedpdfmaccoinaaDoorW.PrintLast
theorem rs_get (l : List ByteArray) (i : Nat) (v : ByteArray) (h : l[i]? = some v) : rdOf ByteArray.empty l (i : Int) = v := by
  unfold rdOf
  simp [h]
theorem rs_lt (l : List ByteArray) (i : Nat) (h : i < l.length) : rdOf ByteArray.empty l (i : Int) = l[i] := rs_get l i _ (List.getElem?_eq_getElem h)
def sizes (l : List ByteArray) : Nat := (l.map fun s => s.size).sum
theorem sz_l0 (l : List ByteArray) (hm : l.length ≤ 1048576) (hs : ∀ s ∈ l, s.size ≤ 140737488351232) : ∀ (d i : Nat) (c : Int), i + d = l.length → 0 ≤ c → c ≤ 1048576 → ∃ t, Ev (fun k => laws_szStringS.l0 k l c (i : Int)) t ∧ (0 ≤ t → (sizes (l.drop i) : Int) ≤ c) := by
  intro d
  induction d with
  | zero =>
    intro i c hi hc0 hc
    refine ⟨c, Ev.step (f := fun _ => some c) (fun k => by simp only [laws_szStringS.l0]; rw [if_neg (by omega)]) (Ev.now _), fun _ => ?_⟩
    rw [List.drop_of_length_le (by omega)]
    simp [sizes]
    exact hc0
  | succ d ih =>
    intro i c hi hc0 hc
    have hlt : i < l.length := by omega
    have hsi := hs l[i] (List.getElem_mem hlt)
    have w1 : wrap64 (c - (l[i].size : Int)) = c - (l[i].size : Int) := w64 (by omega) (by omega)
    by_cases h : c - (l[i].size : Int) < 0
    · refine ⟨-1, Ev.step (f := fun _ => some (-1)) (fun k => ?_) (Ev.now _), fun h => by omega⟩
      simp only [laws_szStringS.l0, rs_lt l i hlt, w1]
      rw [if_pos (by omega), if_pos (by omega), if_pos h]
    · obtain ⟨t, s, ht⟩ := ih (i + 1) (c - (l[i].size : Int)) (by omega) (by omega) (by omega)
      refine ⟨t, Ev.step (fun k => ?_) s, fun h0 => ?_⟩
      · simp only [laws_szStringS.l0, rs_lt l i hlt, w1]
        rw [if_pos (by omega), if_pos (by omega), if_neg h, w64 (x := (i : Int) + 1) (by omega) (by omega)]
        rfl
      · have := ht h0
        rw [List.drop_eq_getElem_cons hlt]
        have e : sizes (l[i] :: l.drop (i + 1)) = l[i].size + sizes (l.drop (i + 1)) := rfl
        rw [e]
        omega
theorem sz_ev (l : List ByteArray) (hm : l.length ≤ maxLen) (hs : ∀ s ∈ l, s.size ≤ 140737488351232) : ∃ t, Ev (fun k => laws_szStringS.f k l 1048576) t ∧ (0 ≤ t → l.length ≤ 1048576 ∧ sizes l ≤ 1048576) := by
  unfold maxLen at hm
  have w1 : wrap64 (1048576 - (l.length : Int)) = 1048576 - (l.length : Int) := w64 (by omega) (by omega)
  unfold laws_szStringS.f
  simp only [w1]
  by_cases h : 1048576 - (l.length : Int) < 0
  · refine ⟨-1, ?_, fun h => by omega⟩
    simp only [if_pos h]
    exact Ev.now _
  · obtain ⟨t, s, ht⟩ := sz_l0 l (by omega) hs l.length 0 (1048576 - (l.length : Int)) (by omega) (by omega) (by omega)
    refine ⟨t, ?_, fun h0 => ⟨by omega, ?_⟩⟩
    · simp only [if_neg h]
      exact s
    · have := ht h0
      rw [List.drop_zero] at this
      omega
theorem toStringS_l0 (l : List ByteArray) (hn : l.length ≤ 1048576) : ∀ (d i : Nat) (o : List ByteArray), i + d = l.length → o.length = l.length → (∀ j, j < i → o[j]? = l[j]?) → ∀ k, d < k →
    laws_toStringS.l0 k l o (i : Int) = some l := by
  intro d
  induction d with
  | zero =>
    intro i o hi ho h k hk
    obtain ⟨m, rfl⟩ : ∃ m, k = m + 1 := ⟨k - 1, by omega⟩
    simp only [laws_toStringS.l0]
    rw [if_neg (by omega)]
    congr 1
    apply List.ext_getElem?
    intro j
    by_cases hj : j < i
    · exact h j hj
    · rw [List.getElem?_eq_none (by omega), List.getElem?_eq_none (by omega)]
  | succ d ih =>
    intro i o hi ho h k hk
    obtain ⟨m, rfl⟩ : ∃ m, k = m + 1 := ⟨k - 1, by omega⟩
    simp only [laws_toStringS.l0, Int.toNat_natCast]
    rw [if_pos (by omega), if_pos (by omega), if_pos (by omega), w64 (by omega) (by omega), rs_lt l i (by omega)]
    refine ih (i + 1) _ (by omega) (by rw [List.length_set]; omega) (fun j hj => ?_) m (by omega)
    by_cases hji : j = i
    · subst hji
      rw [List.getElem?_set_self (by omega), List.getElem?_eq_getElem (by omega)]
    · rw [List.getElem?_set_ne (by omega)]
      exact h j (by omega)
theorem toStringS_ev (l : List ByteArray) (hn : l.length ≤ 1048576) : Ev (fun k => laws_toStringS.f k l) l := by
  refine ⟨l.length + 1, fun k hk => ?_⟩
  show laws_toStringS.f k l = _
  unfold laws_toStringS.f
  rw [if_pos (by omega), if_pos (by rw [Int.toNat_natCast]; omega)]
  exact toStringS_l0 l hn l.length 0 _ (by omega) (by simp) (fun j hj => by omega) k (by omega)
theorem eqStringS_l0 (l : List ByteArray) (hn : l.length ≤ 1000000000000) : ∀ (d i : Nat), i + d = l.length → ∀ k, d < k → laws_eqStringS.l0 k l l (i : Int) = some true := by
  intro d
  induction d with
  | zero =>
    intro i hi k hk
    obtain ⟨m, rfl⟩ : ∃ m, k = m + 1 := ⟨k - 1, by omega⟩
    simp only [laws_eqStringS.l0]
    rw [if_neg (by omega)]
  | succ d ih =>
    intro i hi k hk
    obtain ⟨m, rfl⟩ : ∃ m, k = m + 1 := ⟨k - 1, by omega⟩
    simp only [laws_eqStringS.l0]
    rw [if_pos (by omega), if_pos (by omega), if_pos (by omega)]
    simp only [if_true]
    rw [w64 (by omega) (by omega)]
    exact ih (i + 1) (by omega) m (by omega)
theorem eqStringS_refl (l : List ByteArray) (hn : l.length ≤ 1000000000000) : Ev (fun k => laws_eqStringS.f k l l) true := by
  refine ⟨l.length + 1, fun k hk => ?_⟩
  simp only [laws_eqStringS.f, if_true]
  exact eqStringS_l0 l hn l.length 0 (by omega) k (by omega)
end Go.Proofs.YtedpdfmaccoinaaDoor.Pure

namespace Go.Proofs.YtedpdfmaccoinaaDoor.Pure
open Go.RowKit Go.Proofs.YtedpdfmaccoinaaDoor.P Go.Proofs.YtedpdfmaccoinaaDoorW.PrintWords Go.Proofs.YtedpdfmaccoinaaDoorW.PrintLast
theorem digitB_iff (b : UInt8) : digitB b = decide (48 ≤ b.toNat ∧ b.toNat ≤ 57) := by
  by_cases h : 48 ≤ b.toNat ∧ b.toNat ≤ 57
  · rw [decide_eq_true h]
    have hc : b.toNat = 48 ∨ b.toNat = 49 ∨ b.toNat = 50 ∨ b.toNat = 51 ∨ b.toNat = 52 ∨ b.toNat = 53 ∨ b.toNat = 54 ∨ b.toNat = 55 ∨ b.toNat = 56 ∨ b.toNat = 57 := by omega
    rcases hc with e | e | e | e | e | e | e | e | e | e
    · rw [show b = 48 from UInt8.toNat_inj.1 e]; decide
    · rw [show b = 49 from UInt8.toNat_inj.1 e]; decide
    · rw [show b = 50 from UInt8.toNat_inj.1 e]; decide
    · rw [show b = 51 from UInt8.toNat_inj.1 e]; decide
    · rw [show b = 52 from UInt8.toNat_inj.1 e]; decide
    · rw [show b = 53 from UInt8.toNat_inj.1 e]; decide
    · rw [show b = 54 from UInt8.toNat_inj.1 e]; decide
    · rw [show b = 55 from UInt8.toNat_inj.1 e]; decide
    · rw [show b = 56 from UInt8.toNat_inj.1 e]; decide
    · rw [show b = 57 from UInt8.toNat_inj.1 e]; decide
  · rw [decide_eq_false h]
    cases hd : digitB b with
    | false => rfl
    | true =>
      exfalso
      apply h
      unfold digitB at hd
      simp only [List.contains_eq_mem, List.mem_cons, List.not_mem_nil, or_false, decide_eq_true_eq] at hd
      rcases hd with rfl | rfl | rfl | rfl | rfl | rfl | rfl | rfl | rfl | rfl <;> decide
theorem bt_lt (s : ByteArray) (i : Nat) (h : i < s.size) : bt s (i : Int) = ((s.data.toList[i]'h).toNat : Int) := by
  unfold bt
  rw [dif_pos (by simpa using h)]
  rfl
def rowOk (n : Nat) (s : ByteArray) : Bool := decide (s.size = n) && s.data.toList.all digitB

theorem ntGood_l1 (x : List ByteArray) (s : ByteArray) (hs : s.size ≤ 1048576) (L : List ByteArray) (n q : Int) (r : Bool) (next : Ev (fun k => spec_ntGood.l0 k x L n (wrap64 (q + 1))) r) :
    ∀ (d i : Nat), i + d = s.size → Ev (fun k => spec_ntGood.l1 k x s (i : Int) L n q) ((s.data.toList.drop i).all digitB && r) := by
  intro d
  have hlen : s.data.toList.length = s.size := rfl
  induction d with
  | zero =>
    intro i hi
    rw [List.drop_of_length_le (by omega)]
    refine Ev.step (fun k => ?_) next
    simp only [spec_ntGood.l1]
    rw [if_neg (by omega)]
  | succ d ih =>
    intro i hi
    have hlt : i < s.size := by omega
    rw [List.drop_eq_getElem_cons (show i < s.data.toList.length by omega), List.all_cons, digitB_iff]
    have hb := bt_lt s i hlt
    generalize (s.data.toList[i]'hlt) = b at hb
    by_cases h1 : b.toNat < 48
    · rw [decide_eq_false (by omega), Bool.false_and, Bool.false_and]
      refine Ev.step (f := fun _ => some false) (fun k => ?_) (Ev.now _)
      simp only [spec_ntGood.l1, hb]
      rw [if_pos (by omega), if_pos (by omega), if_pos (by omega)]
    · by_cases h2 : b.toNat > 57
      · rw [decide_eq_false (by omega), Bool.false_and, Bool.false_and]
        refine Ev.step (f := fun _ => some false) (fun k => ?_) (Ev.now _)
        simp only [spec_ntGood.l1, hb]
        rw [if_pos (by omega), if_pos (by omega), if_neg (by omega), if_pos (by omega)]
      · rw [decide_eq_true (by omega), Bool.true_and]
        refine Ev.step (fun k => ?_) (ih (i + 1) (by omega))
        simp only [spec_ntGood.l1, hb]
        rw [if_pos (by omega), if_pos (by omega), if_neg (by omega), if_neg (by omega), w64 (by omega) (by omega)]
        rfl

theorem ntGood_l0 (l : List ByteArray) (hn : l.length ≤ 1048576) (hs : ∀ s ∈ l, s.size ≤ 1048576) (n : Nat) (h0 : (rdOf ByteArray.empty l 0).size = n) (hp : 0 < l.length) : ∀ (d i : Nat), i + d = l.length → Ev (fun k => spec_ntGood.l0 k l l (l.length : Int) (i : Int)) ((l.drop i).all (rowOk n)) := by
  intro d
  induction d with
  | zero =>
    intro i hi
    rw [List.drop_of_length_le (by omega)]
    refine Ev.step (f := fun _ => some true) (fun k => ?_) (Ev.now _)
    simp only [spec_ntGood.l0]
    rw [if_neg (by omega)]
  | succ d ih =>
    intro i hi
    have hlt : i < l.length := by omega
    rw [List.drop_eq_getElem_cons hlt, List.all_cons]
    unfold rowOk
    by_cases h : l[i].size = n
    · rw [decide_eq_true h, Bool.true_and]
      have s := ntGood_l1 l l[i] (hs _ (List.getElem_mem hlt)) l (l.length : Int) (i : Int) ((l.drop (i + 1)).all (rowOk n)) (by rw [w64 (by omega) (by omega)]; exact ih (i + 1) (by omega)) l[i].size 0 (by omega)
      rw [List.drop_zero] at s
      refine Ev.step (fun k => ?_) s
      simp only [spec_ntGood.l0, rs_lt l i hlt, h0]
      rw [if_pos (by omega), if_pos (by omega), if_pos (by omega), if_pos (by omega), if_pos (by omega)]
      rfl
    · rw [decide_eq_false h, Bool.false_and, Bool.false_and]
      refine Ev.step (f := fun _ => some false) (fun k => ?_) (Ev.now _)
      simp only [spec_ntGood.l0, rs_lt l i hlt, h0]
      rw [if_pos (by omega), if_pos (by omega), if_pos (by omega), if_pos (by omega), if_neg (by omega)]

/-- What nuts are: so many rows, each of so many digits. -/
structure Nuts (l : List ByteArray) (w : Nat) : Prop where
  rows1 : 1 ≤ l.length
  rows8 : l.length ≤ 8
  wide1 : 1 ≤ w
  wide8 : w ≤ 8
  wide : ∀ s ∈ l, s.size = w
  digit : ∀ s ∈ l, ∀ b ∈ s.data.toList, 48 ≤ b.toNat ∧ b.toNat ≤ 57

theorem not_any_not (p : ByteArray → Bool) : ∀ l : List ByteArray, (!(l.any fun s => !p s)) = l.all p
  | [] => rfl
  | x :: l => by rw [List.any_cons, List.all_cons, Bool.not_or, Bool.not_not, not_any_not p l]

theorem nutsB_eq (l : List ByteArray) (hp : 0 < l.length) : nutsB l = (decide (1 ≤ (l.length : Int) ∧ (l.length : Int) ≤ 8) && (decide ((1 : Int) ≤ ((l[0]).size : Int) ∧ ((l[0]).size : Int) ≤ (8 : Int)) && l.all (rowOk l[0].size))) := by
  unfold nutsB
  congr 1
  rw [getElem!_pos l 0 hp]
  generalize hn : l[0].size = n
  have h1 : (!l.any (badRow (n : Int) 8)) = l.all fun s => (decide ((s.size : Int) = (n : Int)) && (decide (1 ≤ (s.size : Int) ∧ (s.size : Int) ≤ 8) && s.data.toList.all digitB)) := by
    exact not_any_not _ l
  rw [h1]
  by_cases hb : 1 ≤ (n : Int) ∧ (n : Int) ≤ 8
  · rw [decide_eq_true hb, Bool.true_and]
    have : ∀ s : ByteArray, (decide ((s.size : Int) = (n : Int)) && (decide (1 ≤ (s.size : Int) ∧ (s.size : Int) ≤ 8) && s.data.toList.all digitB)) = rowOk n s := by
      intro s
      unfold rowOk
      by_cases e : s.size = n
      · rw [decide_eq_true e, decide_eq_true (by omega), decide_eq_true (by omega), Bool.true_and]
      · rw [decide_eq_false e, decide_eq_false (by omega), Bool.false_and, Bool.false_and]
    simp only [this]
  · rw [decide_eq_false hb, Bool.false_and]
    rw [List.all_eq_false]
    refine ⟨l[0], List.getElem_mem hp, ?_⟩
    rw [hn, decide_eq_false hb]
    simp

theorem size_le_sizes : ∀ (l : List ByteArray) (s : ByteArray), s ∈ l → s.size ≤ sizes l
  | x :: l, s, h => by
    have e : sizes (x :: l) = x.size + sizes l := rfl
    rcases List.mem_cons.1 h with rfl | h
    · omega
    · have := size_le_sizes l s h
      omega
theorem good_both (l : List ByteArray) (hn : l.length ≤ 1048576) (hz : sizes l ≤ 1048576) : ∃ b : Bool, Ev (fun k => spec_ntGood.f k l) b ∧ impl_AreNuts.f l = some b ∧ (b = true → ∃ w, Nuts l w) := by
  have hs : ∀ s ∈ l, s.size ≤ 1048576 := by
    intro s hs
    have : s.size ≤ sizes l := by
      exact size_le_sizes l s hs
    omega
  have hI : impl_AreNuts.f l = some (nutsB l) := by
    unfold impl_AreNuts.f
    rw [if_pos]
    rw [List.all_eq_true]
    intro s h
    have := hs s h
    exact decide_eq_true (by omega)
  refine ⟨nutsB l, ?_, hI, ?_⟩
  · unfold spec_ntGood.f
    simp only [l1In_some, Option.bind_some]
    by_cases h : 1 ≤ (l.length : Int) ∧ (l.length : Int) ≤ 8
    · have hp : 0 < l.length := by omega
      have h0 : rdOf ByteArray.empty l 0 = l[0] := rs_lt l 0 hp
      rw [nutsB_eq l hp, decide_eq_true h, Bool.true_and]
      simp only [if_true, h0, if_pos (show 0 < (l.length : Int) by omega)]
      by_cases h2 : (1 : Int) ≤ ((l[0]).size : Int) ∧ ((l[0]).size : Int) ≤ (8 : Int)
      · rw [decide_eq_true h2, Bool.true_and]
        have s := ntGood_l0 l hn hs l[0].size (by rw [h0]) hp l.length 0 (by omega)
        rw [List.drop_zero] at s
        exact Ev.step (fun k => by simp only [spec_ntGood.j0, Bool.not_true, Bool.false_eq_true, if_false]; rfl) s
      · rw [decide_eq_false h2, Bool.false_and]
        exact Ev.step (fun k => by simp only [spec_ntGood.j0, Bool.not_false, if_true]) (Ev.now _)
    · have : nutsB l = false := by
        unfold nutsB
        rw [decide_eq_false h, Bool.false_and]
      rw [this, decide_eq_false h]
      simp only [Bool.false_eq_true, if_false]
      exact Ev.step (fun k => by simp only [spec_ntGood.j0, if_true]) (Ev.now _)
  · intro h
    have hp : 0 < l.length := by
      unfold nutsB at h
      rw [Bool.and_eq_true, decide_eq_true_eq] at h
      omega
    rw [nutsB_eq l hp] at h
    simp only [Bool.and_eq_true, decide_eq_true_eq, List.all_eq_true] at h
    obtain ⟨h1, h2, h3⟩ := h
    refine ⟨l[0].size, by omega, by omega, by omega, by omega, fun s hs' => ?_, fun s hs' b hb => ?_⟩
    · have := h3 s hs'
      unfold rowOk at this
      rw [Bool.and_eq_true, decide_eq_true_eq] at this
      exact this.1
    · have := h3 s hs'
      unfold rowOk at this
      rw [Bool.and_eq_true, List.all_eq_true] at this
      have := this.2 b hb
      rw [digitB_iff, decide_eq_true_eq] at this
      exact this
end Go.Proofs.YtedpdfmaccoinaaDoor.Pure

namespace Go.Proofs.YtedpdfmaccoinaaDoor.Pure
open Go.RowKit Go.Proofs.YtedpdfmaccoinaaDoor.P Go.Proofs.YtedpdfmaccoinaaDoorW.PrintWords Go.Proofs.YtedpdfmaccoinaaDoorW.PrintLast
def dg (s : ByteArray) (i : Nat) : Int := bt s (i : Int) - 48
def rowSum (s : ByteArray) : Nat → Nat → Int
  | _, 0 => 0
  | i, d + 1 => dg s i + rowSum s (i + 1) d
def partSum (l : List ByteArray) (x W : Nat) : Nat → Nat → Int
  | _, 0 => 0
  | j, d + 1 => rowSum (rdOf ByteArray.empty l (j : Int)) x W + partSum l x W (j + 1) d
/-- A row of digits. -/
def Digits (s : ByteArray) (w : Nat) : Prop := s.size = w ∧ w ≤ 8 ∧ ∀ i, i < w → 48 ≤ bt s (i : Int) ∧ bt s (i : Int) ≤ 57
theorem Nuts.row {l : List ByteArray} {w : Nat} (h : Nuts l w) (j : Nat) (hj : j < l.length) : Digits (rdOf ByteArray.empty l (j : Int)) w := by
  rw [rs_lt l j hj]
  have hs := h.wide l[j] (List.getElem_mem hj)
  refine ⟨hs, h.wide8, fun i hi => ?_⟩
  rw [bt_lt _ i (by omega)]
  have := h.digit l[j] (List.getElem_mem hj) (l[j].data.toList[i]'(by show i < l[j].size; omega)) (List.getElem_mem _)
  omega
theorem rowSum_bd (s : ByteArray) (w : Nat) (h : Digits s w) : ∀ (d i : Nat), i + d ≤ w → 0 ≤ rowSum s i d ∧ rowSum s i d ≤ 9 * d := by
  intro d
  induction d with
  | zero => intro i hi; exact ⟨Int.le_refl _, by simp [rowSum]⟩
  | succ d ih =>
    intro i hi
    have a := ih (i + 1) (by omega)
    have b := h.2.2 i (by omega)
    have e : rowSum s i (d + 1) = (bt s (i : Int) - 48) + rowSum s (i + 1) d := rfl
    rw [e]
    omega
theorem partSum_bd {l : List ByteArray} {w : Nat} (h : Nuts l w) (x W : Nat) (hx : x + W ≤ w) : ∀ (d j : Nat), j + d ≤ l.length → 0 ≤ partSum l x W j d ∧ partSum l x W j d ≤ 72 * d := by
  intro d
  induction d with
  | zero => intro j hj; exact ⟨Int.le_refl _, by simp [partSum]⟩
  | succ d ih =>
    intro j hj
    have a := ih (j + 1) (by omega)
    have b := rowSum_bd _ w (h.row j (by omega)) W x hx
    have e : partSum l x W j (d + 1) = rowSum (rdOf ByteArray.empty l (j : Int)) x W + partSum l x W (j + 1) d := rfl
    have w8 := h.wide8
    rw [e]
    omega

section
variable {l : List ByteArray} {w : Nat}
theorem spec_sum_l1 (h : Nuts l w) (x X Y y : Nat) (hX : X ≤ w) (hy : y < l.length) (r : Int) (a0 : Int) (ha0 : 0 ≤ a0) (ha1 : a0 ≤ 100000)
    (next : Ev (fun k => spec_ntSum.l0 k l (x : Int) (X : Int) (Y : Int) (a0 + rowSum (rdOf ByteArray.empty l (y : Int)) x (X - x)) ((y + 1 : Nat) : Int)) r) :
    ∀ (d i : Nat) (a : Int), i + d = X → x ≤ i → a + rowSum (rdOf ByteArray.empty l (y : Int)) i d = a0 + rowSum (rdOf ByteArray.empty l (y : Int)) x (X - x) → 0 ≤ a → Ev (fun k => spec_ntSum.l1 k l (x : Int) (X : Int) (Y : Int) a (y : Int) (i : Int)) r := by
  have hd := h.row y hy
  have hl8 := h.rows8
  intro d
  induction d with
  | zero =>
    intro i a hi hxi ha h0
    have e : a = a0 + rowSum (rdOf ByteArray.empty l (y : Int)) x (X - x) := by rw [← ha]; simp [rowSum]
    subst e
    refine Ev.step (fun k => ?_) next
    simp only [spec_ntSum.l1]
    rw [if_neg (by omega), w64 (by omega) (by omega)]
    rfl
  | succ d ih =>
    intro i a hi hxi ha h0
    have b := hd.2.2 i (by omega)
    have hs := hd.1
    have bd := rowSum_bd _ w hd (X - x) x (by omega)
    have bd2 := rowSum_bd _ w hd d (i + 1) (by omega)
    have e1 : rowSum (rdOf ByteArray.empty l (y : Int)) i (d + 1) = (bt (rdOf ByteArray.empty l (y : Int)) (i : Int) - 48) + rowSum (rdOf ByteArray.empty l (y : Int)) (i + 1) d := rfl
    have w8 := h.wide8
    rw [e1] at ha
    refine Ev.step (fun k => ?_) (ih (i + 1) (a + (bt (rdOf ByteArray.empty l (y : Int)) (i : Int) - 48)) (by omega) (by omega) (by omega) (by omega))
    simp only [spec_ntSum.l1]
    rw [if_pos (by omega), if_pos (by omega), if_pos (by omega), if_pos (by omega), if_pos (by omega), w64 (x := (i : Int) + 1) (by omega) (by omega), show (bt (rdOf ByteArray.empty l (y : Int)) (i : Int) - 48) % 256 = bt (rdOf ByteArray.empty l (y : Int)) (i : Int) - 48 by omega, w64 (by omega) (by omega)]
    rfl
theorem spec_sum_l0 (h : Nuts l w) (x X Y : Nat) (hxX : x ≤ X) (hX : X ≤ w) (hY : Y ≤ l.length) :
    ∀ (d j : Nat) (a : Int), j + d = Y → 0 ≤ a → a ≤ 72 * j → Ev (fun k => spec_ntSum.l0 k l (x : Int) (X : Int) (Y : Int) a (j : Int)) (a + partSum l x (X - x) j d) := by
  have hl8 := h.rows8
  have w8 := h.wide8
  intro d
  induction d with
  | zero =>
    intro j a hj h0 h1
    refine Ev.step (f := fun _ => some (a + partSum l x (X - x) j 0)) (fun k => ?_) (Ev.now _)
    simp only [spec_ntSum.l0]
    rw [if_neg (by omega)]
    simp [partSum]
  | succ d ih =>
    intro j a hj h0 h1
    have bd := rowSum_bd _ w (h.row j (by omega)) (X - x) x (by omega)
    have next := ih (j + 1) (a + rowSum (rdOf ByteArray.empty l (j : Int)) x (X - x)) (by omega) (by omega) (by omega)
    have e : a + partSum l x (X - x) j (d + 1) = a + rowSum (rdOf ByteArray.empty l (j : Int)) x (X - x) + partSum l x (X - x) (j + 1) d := by
      show a + (_ + _) = _
      omega
    rw [e]
    refine Ev.step (fun k => ?_) (spec_sum_l1 h x X Y j hX (by omega) _ a h0 (by omega) next (X - x) x a (by omega) (Nat.le_refl _) rfl h0)
    simp only [spec_ntSum.l0]
    rw [if_pos (by omega)]
theorem ntSum_ev (h : Nuts l w) (x y X Y : Nat) (hxX : x ≤ X) (hX : X ≤ w) (hyY : y ≤ Y) (hY : Y ≤ l.length) : Ev (fun k => spec_ntSum.f k l (x : Int) (y : Int) (X : Int) (Y : Int)) (partSum l x (X - x) y (Y - y)) := by
  have := spec_sum_l0 h x X Y hxX hX hY (Y - y) y 0 (by omega) (Int.le_refl _) (by omega)
  rw [Int.zero_add] at this
  exact this

theorem impl_sum_l1 (h : Nuts l w) (L : List ByteArray) (n q : Int) (s : ByteArray) (hd : Digits s w) (x y W H : Nat) (hW : x + W ≤ w) (r : Int) (a0 : Int) (ha0 : 0 ≤ a0) (ha1 : a0 ≤ 100000)
    (next : Ev (fun k => impl_nutsIn.l0 k (a0 + rowSum s x W) L n (wrap64 (q + 1)) (x : Int) (y : Int) (W : Int) (H : Int)) r) :
    ∀ (d i : Nat) (a : Int), i + d = x + W → x ≤ i → a + rowSum s i d = a0 + rowSum s x W → 0 ≤ a → Ev (fun k => impl_nutsIn.l1 k a s (i : Int) L n q (x : Int) (y : Int) (W : Int) (H : Int)) r := by
  have hl8 := h.rows8
  have w8 := h.wide8
  have wX : wrap64 ((x : Int) + (W : Int)) = (x : Int) + (W : Int) := w64 (by omega) (by omega)
  intro d
  induction d with
  | zero =>
    intro i a hi hxi ha h0
    have e : a = a0 + rowSum s x W := by rw [← ha]; simp [rowSum]
    subst e
    refine Ev.step (fun k => ?_) next
    simp only [impl_nutsIn.l1, wX]
    rw [if_neg (by omega)]
  | succ d ih =>
    intro i a hi hxi ha h0
    have b := hd.2.2 i (by omega)
    have hs := hd.1
    have bd := rowSum_bd _ w hd W x (by omega)
    have bd2 := rowSum_bd _ w hd d (i + 1) (by omega)
    have e1 : rowSum s i (d + 1) = (bt s (i : Int) - 48) + rowSum s (i + 1) d := rfl
    rw [e1] at ha
    refine Ev.step (fun k => ?_) (ih (i + 1) (a + (bt s (i : Int) - 48)) (by omega) (by omega) (by omega) (by omega))
    simp only [impl_nutsIn.l1, wX]
    rw [if_pos (by omega), if_pos (by omega), if_pos (by omega), w64 (x := (i : Int) + 1) (by omega) (by omega), show (bt s (i : Int) - 48) % 256 = bt s (i : Int) - 48 by omega, w64 (by omega) (by omega)]
    rfl
theorem impl_sum_l0 (h : Nuts l w) (x y W H : Nat) (hW : x + W ≤ w) (hH : y + H ≤ l.length) (L : List ByteArray) (hL : L.length = H) (hr : ∀ j, j < H → rdOf ByteArray.empty L (j : Int) = rdOf ByteArray.empty l ((y + j : Nat) : Int)) :
    ∀ (d j : Nat) (a : Int), j + d = H → 0 ≤ a → a ≤ 72 * j → Ev (fun k => impl_nutsIn.l0 k a L (L.length : Int) (j : Int) (x : Int) (y : Int) (W : Int) (H : Int)) (a + partSum l x W (y + j) d) := by
  have hl8 := h.rows8
  have w8 := h.wide8
  intro d
  induction d with
  | zero =>
    intro j a hj h0 h1
    refine Ev.step (f := fun _ => some (a + partSum l x W (y + j) 0)) (fun k => ?_) (Ev.now _)
    simp only [impl_nutsIn.l0]
    rw [if_neg (by omega)]
    simp [partSum]
  | succ d ih =>
    intro j a hj h0 h1
    have hd := h.row (y + j) (by omega)
    have bd := rowSum_bd _ w hd W x (by omega)
    have next := ih (j + 1) (a + rowSum (rdOf ByteArray.empty l ((y + j : Nat) : Int)) x W) (by omega) (by omega) (by omega)
    have e : a + partSum l x W (y + j) (d + 1) = a + rowSum (rdOf ByteArray.empty l ((y + j : Nat) : Int)) x W + partSum l x W (y + (j + 1)) d := by
      show a + (_ + _) = _
      rw [show y + j + 1 = y + (j + 1) by omega]
      omega
    rw [e]
    refine Ev.step (fun k => ?_) (impl_sum_l1 h L (L.length : Int) (j : Int) _ hd x y W H hW _ a h0 (by omega) (by rw [w64 (by omega) (by omega)]; exact next) W x a (by omega) (Nat.le_refl _) rfl h0)
    simp only [impl_nutsIn.l0, hr j (by omega)]
    rw [if_pos (by omega), if_pos (by omega), if_pos (by omega)]
theorem nutsIn_ev (h : Nuts l w) (x y W H : Nat) (hW : x + W ≤ w) (hH : y + H ≤ l.length) : Ev (fun k => impl_nutsIn.f k l (x : Int) (y : Int) (W : Int) (H : Int)) (partSum l x W y H) := by
  have hl8 := h.rows8
  have w8 := h.wide8
  have wY : wrap64 ((y : Int) + (H : Int)) = ((y + H : Nat) : Int) := by rw [w64 (by omega) (by omega)]; omega
  have hlen : ((l.take (y + H)).drop y).length = H := by rw [List.length_drop, List.length_take]; omega
  have := impl_sum_l0 h x y W H hW hH ((l.take (y + H)).drop y) hlen (fun j hj => by
    rw [rs_lt _ j (by omega), rs_lt _ (y + j) (by omega)]
    simp) H 0 0 (by omega) (Int.le_refl _) (by omega)
  rw [Int.zero_add, Nat.add_zero] at this
  unfold impl_nutsIn.f
  simp only [wY, Int.toNat_natCast]
  simp only [if_pos (show 0 ≤ (y : Int) by omega), if_pos (show (y : Int) ≤ ((y + H : Nat) : Int) by omega), if_pos (show ((y + H : Nat) : Int) ≤ (l.length : Int) by omega)]
  exact this
end
end Go.Proofs.YtedpdfmaccoinaaDoor.Pure

namespace Go.Proofs.YtedpdfmaccoinaaDoor.Pure
open Go.RowKit Go.Proofs.YtedpdfmaccoinaaDoor.P Go.Proofs.YtedpdfmaccoinaaDoorW.PrintWords Go.Proofs.YtedpdfmaccoinaaDoorW.PrintLast Go.Proofs.YtedpdfmaccoinaaDoorW.PrintMore
set_option linter.unusedVariables false
set_option linter.unusedSimpArgs false
def colsP (l : List ByteArray) (w : Nat) : List Int := (List.range w).map fun x => partSum l x 1 0 l.length
theorem colsP_len (l : List ByteArray) (w : Nat) : (colsP l w).length = w := by unfold colsP; simp
theorem colsP_sml {l : List ByteArray} {w : Nat} (h : Nuts l w) : Sml (colsP l w) := by
  refine ⟨by rw [colsP_len]; exact h.wide8, fun x hx => ?_⟩
  unfold colsP at hx
  obtain ⟨i, hi, rfl⟩ := List.mem_map.1 hx
  have := List.mem_range.1 hi
  have b := partSum_bd h i 1 (by omega) l.length 0 (by omega)
  have := h.rows8
  omega
theorem isum_append : ∀ (a b : List Int), isum (a ++ b) = isum a + isum b
  | [], b => by simp [isum]
  | x :: a, b => by
    show x + isum (a ++ b) = x + isum a + isum b
    rw [isum_append a b]
    omega
theorem rowSum_splitT (s : ByteArray) (b : Nat) : ∀ (a i : Nat), rowSum s i (a + b) = rowSum s i a + rowSum s (i + a) b := by
  intro a
  induction a with
  | zero => intro i; rw [Nat.zero_add, Nat.add_zero]; simp [rowSum]
  | succ a ih =>
    intro i
    rw [show a + 1 + b = a + b + 1 by omega]
    show dg s i + rowSum s (i + 1) (a + b) = (dg s i + rowSum s (i + 1) a) + _
    rw [ih (i + 1), show i + 1 + a = i + (a + 1) by omega, Int.add_assoc]
theorem partSum_colsT (l : List ByteArray) (x a b : Nat) : ∀ (d j : Nat), partSum l x (a + b) j d = partSum l x a j d + partSum l (x + a) b j d := by
  intro d
  induction d with
  | zero => intro j; simp [partSum]
  | succ d ih =>
    intro j
    show rowSum _ x (a + b) + partSum l x (a + b) (j + 1) d = (rowSum _ x a + partSum l x a (j + 1) d) + (rowSum _ (x + a) b + partSum l (x + a) b (j + 1) d)
    rw [ih (j + 1), rowSum_splitT]
    omega
theorem partSum_nil (l : List ByteArray) (x : Nat) : ∀ (d j : Nat), partSum l x 0 j d = 0
  | 0, _ => rfl
  | d + 1, j => by
    rw [show partSum l x 0 j (d + 1) = rowSum (rdOf ByteArray.empty l (j : Int)) x 0 + partSum l x 0 (j + 1) d from rfl, partSum_nil l x d]
    rfl
theorem seg_more (cs : List Int) (i m : Nat) (h : i + m < cs.length) : seg cs i (m + 1) = seg cs i m ++ [cs[i + m]] := by
  unfold seg
  rw [show i + (m + 1) = i + m + 1 by omega, List.take_succ_eq_append_getElem h, List.drop_append_of_le_length (by rw [List.length_take]; omega)]
theorem cols_get (l : List ByteArray) (w j : Nat) (hj : j < (colsP l w).length) : (colsP l w)[j] = partSum l j 1 0 l.length := by
  simp only [colsP, List.getElem_map, List.getElem_range]
theorem seg_cols (l : List ByteArray) (w x : Nat) : ∀ (m : Nat), x + m ≤ w → isum (seg (colsP l w) x m) = partSum l x m 0 l.length
  | 0, _ => by
    rw [partSum_nil]
    unfold seg
    rw [List.drop_of_length_le (by rw [List.length_take]; omega)]
    rfl
  | m + 1, h => by
    rw [seg_more _ _ _ (by rw [colsP_len]; omega), isum_append, seg_cols l w x m (by omega), partSum_colsT]
    rw [cols_get]
    simp [isum]
theorem least_mn2 (a b : Int) : spec_l1Least.f a b = some (mn2 a b) := by
  unfold spec_l1Least.f mn2
  by_cases h : a < b
  · rw [if_pos h, if_neg (by omega)]
  · rw [if_neg h]
    by_cases h2 : b < a
    · rw [if_pos h2]
    · rw [if_neg h2, show a = b by omega]
theorem most_mx2 (a b : Int) : spec_l1Most.f a b = some (if a < b then b else a) := by
  unfold spec_l1Most.f
  by_cases h : a > b
  · rw [if_pos h, if_neg (by omega)]
  · rw [if_neg h]
    by_cases h2 : a < b
    · rw [if_pos h2]
    · rw [if_neg h2, show a = b by omega]
section
variable {l : List ByteArray} {w : Nat}
theorem widthP (h : Nuts l w) : ((rdOf ByteArray.empty l 0).size : Int) = (w : Int) := by
  have h0 := h.rows1
  have := (h.row 0 (by omega)).1
  simp only [Int.natCast_zero] at this
  omega
theorem sum_at (h : Nuts l w) (x m : Nat) (hx : x + m ≤ w) : Ev (fun k => spec_ntSum.f k l (x : Int) 0 ((x + m : Nat) : Int) (l.length : Int)) (isum (seg (colsP l w) x m)) := by
  have a := ntSum_ev h x 0 (x + m) l.length (by omega) (by omega) (Nat.zero_le _) (Nat.le_refl _)
  rw [Nat.sub_zero, show x + m - x = m by omega] at a
  simp only [Int.natCast_zero] at a
  rw [seg_cols l w x m hx]
  exact a
theorem cols_l0 (h : Nuts l w) : ∀ (d j : Nat), j + d = w → Ev (fun k => impl_columnNuts.l0 k l ((colsP l w).take j) (w : Int) (j : Int)) (colsP l w) := by
  have hl8 := h.rows8
  have w8 := h.wide8
  intro d
  induction d with
  | zero =>
    intro j hj
    rw [List.take_of_length_le (by rw [colsP_len]; omega)]
    exact Ev.step (f := fun _ => some (colsP l w)) (fun k => by simp only [impl_columnNuts.l0]; rw [if_neg (by omega)]) (Ev.now _)
  | succ d ih =>
    intro j hj
    have n := ih (j + 1) (by omega)
    have E1_ := Aside0.mk (show wrap64 ((j : Int) + 1) = ((j + 1 : Nat) : Int) from by rw [w64 (by omega) (by omega)]; rfl)
    have b := nutsIn_ev h j 0 1 l.length (by omega) (by omega)
    simp only [Int.natCast_zero] at b
    have hj2 : j < (colsP l w).length := by rw [colsP_len]; omega
    have e2 : (colsP l w).take (j + 1) = (colsP l w).take j ++ [partSum l j 1 0 l.length] := by
      rw [List.take_succ_eq_append_getElem hj2]
      rw [cols_get l w j hj2]
    rw [e2] at n
    refine Ev.step (fun k => by simp only [impl_columnNuts.l0]; rfl) ?_
    refine ev_if_pos (by omega) ?_
    rw [E1_.out]
    exact Ev.bind b (ev_if_pos (by rw [List.length_take]; omega) n)
theorem cols_ev (h : Nuts l w) : Ev (fun k => impl_columnNuts.f k l) (colsP l w) := by
  have hp := h.rows1
  have := cols_l0 h w 0 (by omega)
  rw [List.take_zero] at this
  unfold impl_columnNuts.f
  refine ev_if_pos (by omega) ?_
  rw [widthP h]
  exact this
theorem strip_l0 (h : Nuts l w) (r fr : Nat) (hr : r + 2 ≤ 5) (ih : ∀ fr, fr < w → Ev (fun k => spec_ntStrip.f k l (fr : Int) ((r + 1 : Nat) : Int)) (V (colsP l w) r fr)) : ∀ (d i : Nat) (b : Int), i + 1 + fr + d = w →
    Ev (fun k => spec_ntStrip.l0 k l (fr : Int) ((r + 2 : Nat) : Int) b ((fr + (i + 1) : Nat) : Int)) ((List.range' i d).foldl (stepV (colsP l w) r fr) b) := by
  have hl8 := h.rows8
  have w8 := h.wide8
  have hp := h.rows1
  have hw := widthP h
  intro d
  induction d with
  | zero =>
    intro i b hi
    refine Ev.step (f := fun _ => some b) (fun k => ?_) (Ev.now _)
    simp only [spec_ntStrip.l0]
    rw [if_pos (by omega), if_neg (by omega)]
  | succ d ihd =>
    intro i b hi
    have n := ihd (i + 1) (stepV (colsP l w) r fr b i) (by omega)
    have E1_ := Aside0.mk (show wrap64 (((fr + (i + 1) : Nat) : Int) + 1) = ((fr + (i + 1 + 1) : Nat) : Int) from by rw [w64 (by omega) (by omega)]; omega)
    have E2_ := Aside0.mk (show wrap64 (((r + 2 : Nat) : Int) - 1) = ((r + 1 : Nat) : Int) from by rw [w64 (by omega) (by omega)]; omega)
    rw [List.range'_succ, List.foldl_cons]
    refine Ev.step (fun k => by simp only [spec_ntStrip.l0]; rfl) ?_
    refine ev_if_pos (by omega) (ev_if_pos (by omega) ?_)
    rw [E1_.out, E2_.out]
    refine Ev.bind (ih (fr + (i + 1)) (by omega)) ?_
    have s := sum_at h fr (i + 1) (by omega)
    by_cases h0 : 0 ≤ V (colsP l w) r (fr + (i + 1))
    · have e3 : stepV (colsP l w) r fr b i = (if b < mn2 (V (colsP l w) r (fr + (i + 1))) (isum (seg (colsP l w) fr (i + 1))) then mn2 (V (colsP l w) r (fr + (i + 1))) (isum (seg (colsP l w) fr (i + 1))) else b) := by unfold stepV; rw [if_pos h0]
      rw [e3] at n ⊢
      exact ev_if_pos h0 (Ev.bind s (ev_val (least_mn2 _ _) (ev_val (most_mx2 _ _) n)))
    · have e3 : stepV (colsP l w) r fr b i = b := by unfold stepV; rw [if_neg h0]
      rw [e3] at n ⊢
      exact ev_if_neg h0 n
theorem strip_ev (h : Nuts l w) : ∀ (r : Nat), r + 1 ≤ 5 → ∀ fr, fr < w → Ev (fun k => spec_ntStrip.f k l (fr : Int) ((r + 1 : Nat) : Int)) (V (colsP l w) r fr) := by
  have hl8 := h.rows8
  have w8 := h.wide8
  have hp := h.rows1
  have hw := widthP h
  intro r
  induction r with
  | zero =>
    intro _ fr hfr
    have E1_ := Aside0.mk (show wrap64 ((w : Int) - (fr : Int)) = (w : Int) - (fr : Int) from w64 (by omega) (by omega))
    have s := sum_at h fr (w - fr) (by omega)
    rw [show fr + (w - fr) = w by omega] at s
    rw [V_zero _ (colsP_sml h), colsP_len]
    refine Ev.step (fun k => by simp only [spec_ntStrip.f]; rfl) ?_
    refine ev_if_pos (by omega) ?_
    rw [hw, E1_.out]
    exact ev_if_neg (by omega) (ev_if_pos rfl (Ev.bind s (Ev.now _)))
  | succ r ih =>
    intro hr fr hfr
    have E1_ := Aside0.mk (show wrap64 ((w : Int) - (fr : Int)) = (w : Int) - (fr : Int) from w64 (by omega) (by omega))
    have E2_ := Aside0.mk (show wrap64 ((fr : Int) + 1) = ((fr + (0 + 1) : Nat) : Int) from by rw [w64 (by omega) (by omega)]; omega)
    by_cases hlt : w < fr + r + 2
    · rw [V_none _ r fr (by rw [colsP_len]; exact hlt)]
      refine Ev.step (fun k => by simp only [spec_ntStrip.f]; rfl) ?_
      refine ev_if_pos (by omega) ?_
      rw [hw, E1_.out]
      exact ev_if_pos (by omega) (Ev.now _)
    · rw [V_succ (colsP_sml h) r fr (by rw [colsP_len]; exact hfr), colsP_len, List.range_eq_range']
      have n := strip_l0 h r fr hr (fun fr' hf => ih (by omega) fr' hf) (w - 1 - fr) 0 (-1) (by omega)
      refine Ev.step (fun k => by simp only [spec_ntStrip.f]; rfl) ?_
      refine ev_if_pos (by omega) ?_
      rw [hw, E1_.out, E2_.out]
      exact ev_if_neg (by omega) (ev_if_neg (by omega) n)
theorem first_l1 (h : Nuts l w) (g : Int) (r fr i : Nat) (hr : r + 1 ≤ 5) (out : List Int) (ho : out.length ≤ 100) (hi : fr + (i + 1) < w) (hno : ∀ j, j < i → ¬ (g ≤ isum (seg (colsP l w) fr (j + 1)) ∧ g ≤ V (colsP l w) r (fr + (j + 1)))) (hs : g ≤ isum (seg (colsP l w) fr (i + 1))) (hv : g ≤ V (colsP l w) r (fr + (i + 1))) (res : List Int × Bool)
    (next : Ev (fun k => spec_FirstStrips.l0 k l g (out ++ [(i : Int) + 1]) ((fr + (i + 1) : Nat) : Int) (r : Int)) res) : ∀ (d j : Nat), j + d = i →
    Ev (fun k => spec_FirstStrips.l1 k l g out (fr : Int) ((r + 1 : Nat) : Int) ((fr + (j + 1) : Nat) : Int)) res := by
  have hl8 := h.rows8
  have w8 := h.wide8
  have hp := h.rows1
  have hw := widthP h
  have E3_ := Aside0.mk (show wrap64 (((r + 1 : Nat) : Int) - 1) = (r : Int) from by rw [w64 (by omega) (by omega)]; omega)
  intro d
  induction d with
  | zero =>
    intro j hj
    obtain rfl : j = i := by omega
    have E2_ := Aside0.mk (show wrap64 (((fr + (j + 1) : Nat) : Int) - (fr : Int)) = (j : Int) + 1 from by rw [w64 (by omega) (by omega)]; omega)
    have s := sum_at h fr (j + 1) (by omega)
    refine Ev.step (fun k => by simp only [spec_FirstStrips.l1]; rfl) ?_
    refine ev_if_pos (by omega) (ev_if_pos (by omega) (Ev.bind s (ev_if_pos hs (Ev.bind (strip_ev h r hr (fr + (j + 1)) hi) (ev_if_pos hv (ev_if_pos (by omega) ?_))))))
    rw [E2_.out, E3_.out]
    exact next
  | succ d ihd =>
    intro j hj
    have n := ihd (j + 1) (by omega)
    have E1_ := Aside0.mk (show wrap64 (((fr + (j + 1) : Nat) : Int) + 1) = ((fr + (j + 1 + 1) : Nat) : Int) from by rw [w64 (by omega) (by omega)]; omega)
    have s := sum_at h fr (j + 1) (by omega)
    have hn := hno j (by omega)
    refine Ev.step (fun k => by simp only [spec_FirstStrips.l1]; rfl) ?_
    refine ev_if_pos (by omega) (ev_if_pos (by omega) (Ev.bind s ?_))
    rw [E1_.out]
    by_cases h1 : g ≤ isum (seg (colsP l w) fr (j + 1))
    · exact ev_if_pos h1 (Ev.bind (strip_ev h r hr (fr + (j + 1)) (by omega)) (ev_if_neg (fun h2 => hn ⟨h1, h2⟩) n))
    · exact ev_if_neg h1 n
theorem first_l0 (h : Nuts l w) (g : Int) (hg : 0 ≤ g) : ∀ (r fr : Nat) (out : List Int) (p : List Int × Int), r + 1 ≤ 5 → fr + r + 1 ≤ w → out.length + r ≤ 50 → (cand (colsP l w) r fr).find? (fun p => decide (g ≤ p.2)) = some p →
    Ev (fun k => spec_FirstStrips.l0 k l g out (fr : Int) (r : Int)) (out ++ p.1, true) := by
  have hl8 := h.rows8
  have w8 := h.wide8
  have hp := h.rows1
  have hw := widthP h
  intro r
  induction r with
  | zero =>
    intro fr out p hr hfr ho hf
    have E2_ := Aside0.mk (show wrap64 ((w : Int) - (fr : Int)) = ((w - fr : Nat) : Int) from by rw [w64 (by omega) (by omega)]; omega)
    have hm := List.mem_of_find?_eq_some hf
    rw [cand, colsP_len, List.mem_singleton] at hm
    subst hm
    refine Ev.step (fun k => by simp only [spec_FirstStrips.l0]; rfl) ?_
    refine ev_if_neg (by omega) (ev_if_pos (by omega) (ev_if_pos (by omega) ?_))
    rw [hw, E2_.out]
    exact Ev.now _
  | succ r ih =>
    intro fr out p hr hfr ho hf
    obtain ⟨i, hi, hno, hs, hv, q, hq, hpq⟩ := cand_first _ g hg r fr p hf
    rw [colsP_len] at hi
    have E1_ := Aside0.mk (show wrap64 ((fr : Int) + 1) = ((fr + (0 + 1) : Nat) : Int) from by rw [w64 (by omega) (by omega)]; omega)
    have n := ih (fr + (i + 1)) (out ++ [(i : Int) + 1]) q (by omega) (by omega) (by rw [List.length_append, List.length_singleton]; omega) hq
    rw [hpq, show out ++ ((i : Int) + 1) :: q.1 = (out ++ [(i : Int) + 1]) ++ q.1 by simp]
    have n2 := first_l1 h g r fr i (by omega) out (by omega) (by omega) hno hs hv _ n i 0 (by omega)
    refine Ev.step (fun k => by simp only [spec_FirstStrips.l0]; rfl) ?_
    refine ev_if_pos (by omega) ?_
    rw [E1_.out]
    exact n2
end
end Go.Proofs.YtedpdfmaccoinaaDoor.Pure

namespace Go.Proofs.YtedpdfmaccoinaaDoor.Pure
open Go.RowKit Go.Proofs.YtedpdfmaccoinaaDoor.P Go.Proofs.YtedpdfmaccoinaaDoorW.PrintWords Go.Proofs.YtedpdfmaccoinaaDoorW.PrintLast Go.Proofs.YtedpdfmaccoinaaDoorW.PrintMore
set_option linter.unusedVariables false
set_option linter.unusedSimpArgs false
theorem foldl_cg {α β : Type} {f g : β → α → β} : ∀ (l : List α) (b : β), (∀ b x, x ∈ l → f b x = g b x) → l.foldl f b = l.foldl g b
  | [], _, _ => rfl
  | x :: l, b, h => by
    rw [List.foldl_cons, List.foldl_cons, h b x (by simp), foldl_cg l (g b x) (fun b y hy => h b y (by simp [hy]))]
theorem seg_le {cs : List Int} (h : Sml cs) (i m : Nat) : isum (seg cs i m) ≤ isum cs := by
  have h1 : isum cs = isum (cs.take (i + m)) + isum (cs.drop (i + m)) := by rw [← isum_append, List.take_append_drop]
  have h2 : isum (cs.take (i + m)) = isum ((cs.take (i + m)).take i) + isum (seg cs i m) := by unfold seg; rw [← isum_append, List.take_append_drop]
  have h3 := (h.sub (k := cs.drop (i + m)) (by rw [List.length_drop]; omega) (fun x hx => List.mem_of_mem_drop hx)).bd.1
  have h4 := (h.sub (k := (cs.take (i + m)).take i) (by rw [List.length_take, List.length_take]; omega) (fun x hx => List.mem_of_mem_take (List.mem_of_mem_take hx))).bd.1
  omega
theorem cand_le {cs : List Int} (h : Sml cs) : ∀ (r fr : Nat) (p : List Int × Int), p ∈ cand cs r fr → p.2 ≤ isum cs
  | 0, fr, p, hp => by
    simp only [cand, List.mem_singleton] at hp
    subst hp
    exact seg_le h _ _
  | r + 1, fr, p, hp => by
    rw [cand, List.mem_flatMap] at hp
    obtain ⟨i, _, hp⟩ := hp
    obtain ⟨q, hq, rfl⟩ := List.mem_map.1 hp
    have h2 := seg_le h fr (i + 1)
    show mn2 _ _ ≤ _
    unfold mn2
    split <;> omega
theorem strips_f {cs : List Int} (h : Sml cs) (m : Nat) (hm2 : m + 1 ≤ cs.length) : ∃ p, impl_strips.f cs ((m + 1 : Nat) : Int) = some p ∧ p.2 = V cs m 0 ∧ (cand cs m 0).find? (fun q => decide (V cs m 0 ≤ q.2)) = some p ∧ 0 ≤ V cs m 0 ∧ p.1.length ≤ 8 := by
  have e1 : cutS cs m [] 0 (isum cs) ([], -1) = (cand cs m 0).foldl bet ([], -1) := by
    rw [cutS_cand]
    refine foldl_cg _ _ (fun b x hx => ?_)
    have h1 := cand_le h m 0 x hx
    have h2 : mn2 (isum cs) x.2 = x.2 := by unfold mn2; split <;> omega
    unfold better bet
    rw [h2, List.nil_append]
  have hlen : ∀ (r fr : Nat) (p : List Int × Int), p ∈ cand cs r fr → p.1.length = r + 1 := by
    intro r
    induction r with
    | zero =>
      intro fr p hp
      simp only [cand, List.mem_singleton] at hp
      subst hp
      rfl
    | succ r ih =>
      intro fr p hp
      rw [cand, List.mem_flatMap] at hp
      obtain ⟨i, _, hp⟩ := hp
      obtain ⟨q, hq, rfl⟩ := List.mem_map.1 hp
      have := ih _ q hq
      simp [this]
  have h8 := h.1
  have hne := cand_some cs m 0 (by omega)
  refine ⟨(cand cs m 0).foldl bet ([], -1), ?_, ?_⟩
  · unfold impl_strips.f
    rw [if_pos ⟨h.1, h.2, by omega, by omega⟩, show ((m + 1 : Nat) : Int).toNat - 1 = m by omega, e1]
  · rcases bet_fold (cand cs m 0) ([], -1) with ⟨_, hall⟩ | ⟨h1, h2, h3⟩
    · obtain ⟨x, l, hx⟩ := List.exists_cons_of_ne_nil hne
      have hm : x ∈ cand cs m 0 := by rw [hx]; simp
      have h4 := hall x hm
      have h5 := cand_nonneg h m 0 x hm
      simp only at h4
      omega
    · have hmem := List.mem_of_find?_eq_some h2
      have hv : ((cand cs m 0).foldl bet ([], -1)).2 = V cs m 0 := by
        have h4 : V cs m 0 ≤ ((cand cs m 0).foldl bet ([], -1)).2 := (topV_le _ _).2 ⟨by simp only at h1; omega, h3⟩
        have h5 := ((topV_le (cand cs m 0) (V cs m 0)).1 (Int.le_refl _)).2 _ hmem
        omega
      have h6 := cand_nonneg h m 0 _ hmem
      refine ⟨hv, ?_, by omega, by rw [hlen m 0 _ hmem]; omega⟩
      rw [← hv]
      exact h2
section
variable {l : List ByteArray} {w : Nat}
theorem sharers_ev (h : Nuts l w) (hg : Ev (fun k => spec_ntGood.f k l) true) (a : Int) : Ev (fun k => spec_ntSharers.f k l a (w : Int)) (decide (1 ≤ a ∧ a ≤ 5 ∧ a ≤ (w : Int))) := by
  have e : decide (1 ≤ a ∧ a ≤ 5 ∧ a ≤ (w : Int)) = decide (1 ≤ a ∧ a ≤ mn2 (w : Int) 5) := by
    congr 1
    refine propext ?_
    unfold mn2
    split <;> omega
  rw [e]
  unfold spec_ntSharers.f
  exact Ev.bind hg (ev_if_pos rfl (ev_val (least_mn2 _ _) (ev_val (l1In_some _ _ _) (Ev.now _))))
end
theorem strip_both (l : List ByteArray) (a : Int) (hl : l.length ≤ 1048576) (hz : sizes l ≤ 1048576) : ∃ r, Ev (fun k => spec_PoorestStrip.f k l a) r ∧ Ev (fun k => impl_PoorestStrip.f k l a) r := by
  obtain ⟨b, hg, hi, hb⟩ := good_both l hl hz
  cases b with
  | false =>
    refine ⟨(0, false), ?_, ?_⟩
    · unfold spec_PoorestStrip.f
      exact Ev.bind hg (ev_if_neg (by decide) (Ev.now _))
    · unfold impl_PoorestStrip.f
      refine ev_val hi (ev_if_neg (by decide) (Ev.step (fun k => by simp only [impl_PoorestStrip.j0]; rfl) ?_))
      first | exact ev_if_pos rfl (Ev.now _) | exact ev_if_pos trivial (Ev.now _)
  | true =>
    obtain ⟨w, h⟩ := hb rfl
    have hp := h.rows1
    have w8 := h.wide8
    have hw := widthP h
    have hsh := sharers_ev h hg a
    have hwi : impl_within.f a 1 (mn 5 (w : Int)) = some (decide (1 ≤ a ∧ a ≤ 5 ∧ a ≤ (w : Int))) := by
      rw [within_some]
      congr 2
      refine propext ?_
      unfold mn
      split <;> omega
    by_cases hn : 1 ≤ a ∧ a ≤ 5 ∧ a ≤ (w : Int)
    · rw [decide_eq_true hn] at hsh hwi
      obtain ⟨m, rfl⟩ : ∃ m : Nat, a = ((m + 1 : Nat) : Int) := ⟨a.toNat - 1, by omega⟩
      obtain ⟨p, h1, h2, h3, h4, _⟩ := strips_f (colsP_sml h) m (by rw [colsP_len]; omega)
      have s := strip_ev h m (by omega) 0 (by omega)
      refine ⟨(V (colsP l w) m 0, true), ?_, ?_⟩
      · unfold spec_PoorestStrip.f
        rw [hw]
        exact Ev.bind hg (ev_if_pos rfl (ev_if_pos (by omega) (Ev.bind hsh (ev_if_pos rfl (Ev.bind s (Ev.now _))))))
      · unfold impl_PoorestStrip.f
        rw [hw]
        refine ev_val hi (ev_if_pos rfl (ev_if_pos (by omega) (ev_val hwi (Ev.step (fun k => by simp only [impl_PoorestStrip.j0]; rfl) (ev_if_neg (by decide) (Ev.bind (cols_ev h) (ev_val h1 ?_)))))))
        rw [h2]
        exact Ev.now _
    · rw [decide_eq_false hn] at hsh hwi
      refine ⟨(0, false), ?_, ?_⟩
      · unfold spec_PoorestStrip.f
        rw [hw]
        exact Ev.bind hg (ev_if_pos rfl (ev_if_pos (by omega) (Ev.bind hsh (ev_if_neg (by decide) (Ev.now _)))))
      · unfold impl_PoorestStrip.f
        rw [hw]
        refine ev_val hi (ev_if_pos rfl (ev_if_pos (by omega) (ev_val hwi (Ev.step (fun k => by simp only [impl_PoorestStrip.j0]; rfl) ?_))))
        first | exact ev_if_pos rfl (Ev.now _) | exact ev_if_pos trivial (Ev.now _)
theorem firstS_both (l : List ByteArray) (a : Int) (hl : l.length ≤ 1048576) (hz : sizes l ≤ 1048576) : ∃ r : List Int × Bool, r.1.length ≤ 8 ∧ Ev (fun k => spec_FirstStrips.f k l a) r ∧ Ev (fun k => impl_FirstStrips.f k l a) r := by
  obtain ⟨b, hg, hi, hb⟩ := good_both l hl hz
  cases b with
  | false =>
    refine ⟨([], false), by simp, ?_, ?_⟩
    · unfold spec_FirstStrips.f
      refine Ev.bind hg (ev_if_neg (by decide) (Ev.step (fun k => by simp only [spec_FirstStrips.j0]; rfl) ?_))
      first | exact ev_if_pos rfl (Ev.now _) | exact ev_if_pos trivial (Ev.now _)
    · unfold impl_FirstStrips.f
      refine ev_val hi (ev_if_neg (by decide) (Ev.step (fun k => by simp only [impl_FirstStrips.j0]; rfl) ?_))
      first | exact ev_if_pos rfl (Ev.now _) | exact ev_if_pos trivial (Ev.now _)
  | true =>
    obtain ⟨w, h⟩ := hb rfl
    have hp := h.rows1
    have w8 := h.wide8
    have hw := widthP h
    have hsh := sharers_ev h hg a
    have hwi : impl_within.f a 1 (mn 5 (w : Int)) = some (decide (1 ≤ a ∧ a ≤ 5 ∧ a ≤ (w : Int))) := by
      rw [within_some]
      congr 2
      refine propext ?_
      unfold mn
      split <;> omega
    by_cases hn : 1 ≤ a ∧ a ≤ 5 ∧ a ≤ (w : Int)
    · rw [decide_eq_true hn] at hsh hwi
      obtain ⟨m, rfl⟩ : ∃ m : Nat, a = ((m + 1 : Nat) : Int) := ⟨a.toNat - 1, by omega⟩
      obtain ⟨p, h1, h2, h3, h4, h5⟩ := strips_f (colsP_sml h) m (by rw [colsP_len]; omega)
      have s := strip_ev h m (by omega) 0 (by omega)
      have f := first_l0 h (V (colsP l w) m 0) h4 m 0 [] p (by omega) (by omega) (by simp; omega) h3
      rw [List.nil_append] at f
      have e := Aside0.mk (show wrap64 (((m + 1 : Nat) : Int) - 1) = (m : Int) by rw [w64 (by omega) (by omega)]; omega)
      refine ⟨(p.1, true), h5, ?_, ?_⟩
      · unfold spec_FirstStrips.f
        rw [hw]
        refine Ev.bind hg (ev_if_pos rfl (ev_if_pos (by omega) (Ev.bind hsh (Ev.step (fun k => by simp only [spec_FirstStrips.j0]; rfl) (ev_if_neg (by decide) (Ev.bind s ?_))))))
        rw [e.out]
        exact f
      · unfold impl_FirstStrips.f
        rw [hw]
        exact ev_val hi (ev_if_pos rfl (ev_if_pos (by omega) (ev_val hwi (Ev.step (fun k => by simp only [impl_FirstStrips.j0]; rfl) (ev_if_neg (by decide) (Ev.bind (cols_ev h) (ev_val h1 (Ev.now (p.1, true)))))))))
    · rw [decide_eq_false hn] at hsh hwi
      refine ⟨([], false), by simp, ?_, ?_⟩
      · unfold spec_FirstStrips.f
        rw [hw]
        refine Ev.bind hg (ev_if_pos rfl (ev_if_pos (by omega) (Ev.bind hsh (Ev.step (fun k => by simp only [spec_FirstStrips.j0]; rfl) ?_))))
        first | exact ev_if_pos rfl (Ev.now _) | exact ev_if_pos trivial (Ev.now _)
      · unfold impl_FirstStrips.f
        rw [hw]
        refine ev_val hi (ev_if_pos rfl (ev_if_pos (by omega) (ev_val hwi (Ev.step (fun k => by simp only [impl_FirstStrips.j0]; rfl) ?_))))
        first | exact ev_if_pos rfl (Ev.now _) | exact ev_if_pos trivial (Ev.now _)
end Go.Proofs.YtedpdfmaccoinaaDoor.Pure

namespace Go.Proofs.YtedpdfmaccoinaaDoor.Pure
open Go.RowKit Go.Proofs.YtedpdfmaccoinaaDoor.P Go.Proofs.YtedpdfmaccoinaaDoorW.PrintWords Go.Proofs.YtedpdfmaccoinaaDoorW.PrintLast
theorem eqIntS_l0 (l : List Int) (hn : l.length ≤ 1000000000000) : ∀ (d i : Nat), i + d = l.length → ∀ k, d < k → laws_eqIntS.l0 k l l (i : Int) = some true := by
  intro d
  induction d with
  | zero =>
    intro i hi k hk
    obtain ⟨m, rfl⟩ : ∃ m, k = m + 1 := ⟨k - 1, by omega⟩
    simp only [laws_eqIntS.l0]
    rw [if_neg (by omega)]
  | succ d ih =>
    intro i hi k hk
    obtain ⟨m, rfl⟩ : ∃ m, k = m + 1 := ⟨k - 1, by omega⟩
    simp only [laws_eqIntS.l0]
    rw [if_pos (by omega), if_pos (by omega), if_pos (by omega)]
    simp only [if_true]
    rw [w64 (by omega) (by omega)]
    exact ih (i + 1) (by omega) m (by omega)
theorem eqIntS_refl (l : List Int) (hn : l.length ≤ 1000000000000) : Ev (fun k => laws_eqIntS.f k l l) true := by
  refine ⟨l.length + 1, fun k hk => ?_⟩
  simp only [laws_eqIntS.f, if_true]
  exact eqIntS_l0 l hn l.length 0 (by omega) k (by omega)
end Go.Proofs.YtedpdfmaccoinaaDoor.Pure

namespace Go.Proofs.YtedpdfmaccoinaaDoor.Pure
open Go.RowKit Go.Proofs.YtedpdfmaccoinaaDoor.P Go.Proofs.YtedpdfmaccoinaaDoorW.PrintWords Go.Proofs.YtedpdfmaccoinaaDoorW.PrintLast
theorem markIntS_l0 : ∀ (d i : Nat) (l : List Int) (c : Nat), l.length = i + d → l.length ≤ 1000000000000 → c + d ≤ 4000000000000 → ∀ k, d < k →
    laws_markIntS.l0 k l (c : Int) (i : Int) = some (((c + d : Nat) : Int), l.take i ++ (List.range d).map (fun j => ((c + j : Nat) : Int))) := by
  intro d
  induction d with
  | zero =>
    intro i l c hl hn hc k hk
    obtain ⟨m, rfl⟩ : ∃ m, k = m + 1 := ⟨k - 1, by omega⟩
    simp only [laws_markIntS.l0]
    rw [if_neg (by omega), List.take_of_length_le (by omega)]
    simp
  | succ d ih =>
    intro i l c hl hn hc k hk
    obtain ⟨m, rfl⟩ : ∃ m, k = m + 1 := ⟨k - 1, by omega⟩
    simp only [laws_markIntS.l0, Int.toNat_natCast]
    rw [if_pos (by omega), if_pos (by omega), w64 (x := (c : Int) + 1) (by omega) (by omega), w64 (x := (i : Int) + 1) (by omega) (by omega)]
    have := ih (i + 1) (l.set i (c : Int)) (c + 1) (by rw [List.length_set]; omega) (by rw [List.length_set]; omega) (by omega) m (by omega)
    rw [show c + 1 + d = c + (d + 1) by omega] at this
    have e : (l.set i (c : Int)).take (i + 1) ++ (List.range d).map (fun j => ((c + 1 + j : Nat) : Int)) = l.take i ++ (List.range (d + 1)).map (fun j => ((c + j : Nat) : Int)) := by
      rw [List.take_succ_eq_append_getElem (by rw [List.length_set]; omega), List.getElem_set_self, List.take_set_of_le (by omega), List.append_assoc, List.range_succ_eq_map, List.map_cons, List.map_map]
      congr 1
      rw [List.singleton_append]
      congr 1
      refine List.map_congr_left fun j _ => ?_
      simp only [Function.comp]
      omega
    rw [e] at this
    exact this
theorem heldIntS_l0 : ∀ (d i : Nat) (l : List Int) (c : Nat), l.length = i + d → l.length ≤ 1000000000000 → c + d ≤ 4000000000000 →
    (∀ j, j < d → l[i + j]? = some ((c + j : Nat) : Int)) → ∀ k, d < k → laws_heldIntS.l0 k l (c : Int) (i : Int) = some ((c + d : Nat) : Int) := by
  intro d
  induction d with
  | zero =>
    intro i l c hl hn hc h k hk
    obtain ⟨m, rfl⟩ : ∃ m, k = m + 1 := ⟨k - 1, by omega⟩
    simp only [laws_heldIntS.l0]
    rw [if_neg (by omega)]
    simp
  | succ d ih =>
    intro i l c hl hn hc h k hk
    obtain ⟨m, rfl⟩ : ∃ m, k = m + 1 := ⟨k - 1, by omega⟩
    have h0 := h 0 (by omega)
    rw [Nat.add_zero] at h0
    simp only [laws_heldIntS.l0]
    rw [if_pos (by omega), if_pos (by omega), rd_get _ _ _ h0, if_pos (by simp), w64 (x := (c : Int) + 1) (by omega) (by omega), w64 (x := (i : Int) + 1) (by omega) (by omega)]
    rw [show c + (d + 1) = c + 1 + d by omega]
    refine ih (i + 1) l (c + 1) (by omega) hn (by omega) (fun j hj => ?_) m (by omega)
    rw [show i + 1 + j = i + (j + 1) by omega, h (j + 1) (by omega), show c + (j + 1) = c + 1 + j by omega]
def marks (n c : Nat) : List Int := (List.range n).map (fun j => ((c + j : Nat) : Int))
theorem marks_get (n c j : Nat) (h : j < n) : (marks n c)[j]? = some ((c + j : Nat) : Int) := by
  unfold marks
  simp [h]
theorem markIntS_ev (l : List Int) (c : Nat) (hn : l.length ≤ 1000000000000) (hc : c ≤ 1000000000000) : Ev (fun k => laws_markIntS.f k l (c : Int)) (((c + l.length : Nat) : Int), marks l.length c) := by
  refine ⟨l.length + 1, fun k hk => ?_⟩
  have := markIntS_l0 l.length 0 l c (by omega) hn (by omega) k (by omega)
  rwa [List.take_zero, List.nil_append] at this
theorem heldIntS_ev (n c : Nat) (hn : n ≤ 1000000000000) (hc : c ≤ 1000000000000) : Ev (fun k => laws_heldIntS.f k (marks n c) (c : Int)) ((c + n : Nat) : Int) := by
  have hl : (marks n c).length = n := by simp [marks]
  refine ⟨n + 1, fun k hk => ?_⟩
  exact heldIntS_l0 n 0 (marks n c) c (by omega) (by omega) (by omega) (fun j hj => by rw [Nat.zero_add]; exact marks_get n c j hj) k (by omega)
/-- What is marked, and what is held behind it. -/
theorem ints_held (l : List Int) (hn : l.length ≤ 1000000000000) : ∃ (c : Int) (l' : List Int), 0 ≤ c ∧ Ev (fun k => laws_markIntS.f k l 1) (c, l') ∧ Ev (fun k => laws_heldIntS.f k l' 1) c :=
  ⟨_, _, by omega, markIntS_ev l 1 hn (by omega), heldIntS_ev l.length 1 hn (by omega)⟩
end Go.Proofs.YtedpdfmaccoinaaDoor.Pure

namespace Go.Proofs.YtedpdfmaccoinaaDoor.Pure
open Go.RowKit Go.Proofs.YtedpdfmaccoinaaDoor.P Go.Proofs.YtedpdfmaccoinaaDoorW.PrintWords Go.Proofs.YtedpdfmaccoinaaDoorW.PrintLast
theorem strOfNums_one (n : Int) : (strOfNums [n]).size = 1 := by
  simp [strOfNums, ByteArray.size]
theorem markText_l0 : ∀ (d : Nat) (n : Nat) (t : ByteArray), n ≤ d → n ≤ 4000000000000 → t.size + d ≤ 9000000000000000000 → ∃ s, Ev (fun k => laws_markText.l0 k (n : Int) t) s := by
  intro d
  induction d with
  | zero =>
    intro n t hn h4 ht
    refine ⟨(⟨#[109]⟩ : ByteArray) ++ t, Ev.step (f := fun _ => some ((⟨#[109]⟩ : ByteArray) ++ t)) (fun k => ?_) (Ev.now _)⟩
    simp only [laws_markText.l0]
    rw [if_neg (by omega), if_pos (by omega)]
  | succ d ih =>
    intro n t hn h4 ht
    by_cases h0 : n = 0
    · subst h0
      refine ⟨(⟨#[109]⟩ : ByteArray) ++ t, Ev.step (f := fun _ => some ((⟨#[109]⟩ : ByteArray) ++ t)) (fun k => ?_) (Ev.now _)⟩
      simp only [laws_markText.l0]
      rw [if_neg (by omega), if_pos (by omega)]
    · have hq : Int.tdiv (n : Int) 10 = ((n / 10 : Nat) : Int) := by rw [Int.tdiv_eq_ediv_of_nonneg (by omega)]; omega
      generalize hc : strOfNums [(wrap64 (48 + (Int.tmod (n : Int) 10))) % 256] = c
      have hc1 : c.size = 1 := by rw [← hc]; exact strOfNums_one _
      obtain ⟨s, hs⟩ := ih (n / 10) (c ++ t) (by omega) (by omega) (by rw [ByteArray.size_append]; omega)
      refine ⟨s, Ev.step (fun k => ?_) hs⟩
      simp only [laws_markText.l0, Option.bind_some, hc]
      rw [if_pos (by omega), if_pos (by omega), hq, w64 (by omega) (by omega)]
theorem markText_ev (n : Nat) (h : n ≤ 4000000000000) : ∃ s, Ev (fun k => laws_markText.f k (n : Int)) s := by
  unfold laws_markText.f
  by_cases h0 : (n : Int) ≤ 0
  · exact ⟨_, ev_if_pos h0 (Ev.now _)⟩
  · obtain ⟨s, hs⟩ := markText_l0 n n ⟨#[]⟩ (Nat.le_refl _) h (by simp [ByteArray.size]; omega)
    exact ⟨s, ev_if_neg h0 hs⟩
noncomputable def markT (n : Nat) : ByteArray := if h : n ≤ 4000000000000 then Classical.choose (markText_ev n h) else ByteArray.empty
theorem markT_ev (n : Nat) (h : n ≤ 4000000000000) : Ev (fun k => laws_markText.f k (n : Int)) (markT n) := by
  unfold markT
  rw [dif_pos h]
  exact Classical.choose_spec (markText_ev n h)
theorem markStringS_l0 : ∀ (d i : Nat) (l : List ByteArray) (c : Nat), l.length = i + d → l.length ≤ 1000000000000 → c + d ≤ 4000000000000 →
    Ev (fun k => laws_markStringS.l0 k l (c : Int) (i : Int)) (((c + d : Nat) : Int), l.take i ++ (List.range d).map (fun j => markT (c + j))) := by
  intro d
  induction d with
  | zero =>
    intro i l c hl hn hc
    refine Ev.step (f := fun _ => some (((c + 0 : Nat) : Int), l.take i ++ (List.range 0).map (fun j => markT (c + j)))) (fun k => ?_) (Ev.now _)
    simp only [laws_markStringS.l0]
    rw [if_neg (by omega), List.take_of_length_le (by omega)]
    simp
  | succ d ih =>
    intro i l c hl hn hc
    have next := ih (i + 1) (l.set i (markT c)) (c + 1) (by rw [List.length_set]; omega) (by rw [List.length_set]; omega) (by omega)
    rw [show c + 1 + d = c + (d + 1) by omega] at next
    have e : (l.set i (markT c)).take (i + 1) ++ (List.range d).map (fun j => markT (c + 1 + j)) = l.take i ++ (List.range (d + 1)).map (fun j => markT (c + j)) := by
      rw [List.take_succ_eq_append_getElem (by rw [List.length_set]; omega), List.getElem_set_self, List.take_set_of_le (by omega), List.append_assoc, List.range_succ_eq_map, List.map_cons, List.map_map]
      congr 1
      rw [List.singleton_append]
      congr 1
      refine List.map_congr_left fun j _ => ?_
      simp only [Function.comp]
      rw [show c + 1 + j = c + (j + 1) by omega]
    rw [e] at next
    have f1 : (i : Int) < (l.length : Int) := by omega
    have f2 : c ≤ 4000000000000 := by omega
    have f3 : 0 ≤ (i : Int) := by omega
    have e1 : wrap64 ((c : Int) + 1) = ((c + 1 : Nat) : Int) := by rw [w64 (by omega) (by omega)]; rfl
    have e2 : wrap64 ((i : Int) + 1) = ((i + 1 : Nat) : Int) := by rw [w64 (by omega) (by omega)]; rfl
    refine Ev.step (fun k => by simp only [laws_markStringS.l0, Int.toNat_natCast, e1, e2]; rfl) (ev_if_pos f1 (Ev.bind (markT_ev c f2) (ev_if_pos f3 next)))
theorem markStringS_ev (l : List ByteArray) (hn : l.length ≤ 1000000000000) : ∃ (c : Int) (l' : List ByteArray), 0 ≤ c ∧ Ev (fun k => laws_markStringS.f k l 1) (c, l') := by
  have s := markStringS_l0 l.length 0 l 1 (by omega) hn (by omega)
  exact ⟨_, _, by omega, s⟩
end Go.Proofs.YtedpdfmaccoinaaDoor.Pure

namespace Go.Proofs.YtedpdfmaccoinaaDoor.Pure
open Go.RowKit Go.Proofs.YtedpdfmaccoinaaDoor.P Go.Proofs.YtedpdfmaccoinaaDoorW.PrintWords Go.Proofs.YtedpdfmaccoinaaDoorW.PrintLast
theorem FnExactFirstStrips (l0 : List ByteArray) (hm : l0.length ≤ maxLen) (_ : l0.length * 16 ≤ 140737488351232) (hs : (∀ s ∈ l0, s.size ≤ 140737488351232)) (a1 : Int) (_ : (Lit.int .i64 a1).wf = true) : ∃ k, laws_FnExactFirstStrips.f k l0 a1 = some true := by
  refine Ev.rounds (r := true) ?_
  unfold laws_FnExactFirstStrips.f
  obtain ⟨t, ht, hz⟩ := sz_ev l0 hm hs
  refine Ev.bind ht ?_
  by_cases h0 : t < 0
  · simp only [if_pos h0]
    exact Ev.now _
  · simp only [if_neg h0]
    obtain ⟨hl, hz⟩ := hz (by omega)
    have hc := toStringS_ev l0 hl
    obtain ⟨r, hr, hS, hI⟩ := firstS_both l0 a1 hl hz
    have he := eqIntS_refl r.1 (by omega)
    obtain ⟨c, l', hc0, hmk, hh⟩ := ints_held r.1 (by omega)
    obtain ⟨c2, l2, hc2, hmk2⟩ := markStringS_ev l0 (by omega)
    refine Ev.bind hc (Ev.bind hS (Ev.bind hc (Ev.bind hI (Ev.bind he ?_))))
    simp only [if_true, bne_self_eq_false]
    refine Ev.step (fun k => by simp only [laws_FnExactFirstStrips.j0, Bool.false_eq_true, if_false]; rfl) ?_
    refine Ev.bind hc (Ev.bind (eqStringS_refl l0 (by omega)) ?_)
    simp only [if_true]
    refine Ev.bind hmk2 ?_
    simp only [if_neg (show ¬ c2 < 0 by omega)]
    refine Ev.bind he ?_
    simp only [if_true, bne_self_eq_false]
    refine Ev.step (fun k => by simp only [laws_FnExactFirstStrips.j1, Bool.false_eq_true, if_false]; rfl) ?_
    refine Ev.bind hmk (Ev.bind hh ?_)
    simp only [if_neg (show ¬ c < 0 by omega), if_true]
    refine Ev.bind hc (Ev.bind hI (Ev.bind he ?_))
    simp only [if_true, bne_self_eq_false]
    refine Ev.step (fun k => by simp only [laws_FnExactFirstStrips.j2, Bool.false_eq_true, if_false]; rfl) ?_
    refine Ev.bind hh ?_
    simp only [if_neg (show ¬ c < 0 by omega), if_true]
    exact Ev.now _
end Go.Proofs.YtedpdfmaccoinaaDoor.Pure
