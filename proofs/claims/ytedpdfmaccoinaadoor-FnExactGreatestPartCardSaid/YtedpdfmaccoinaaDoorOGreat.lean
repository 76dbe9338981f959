/- Small facts on numbers: the wrap of what fits; the tests of bounds. | Lists of texts: measured, copied, compared with themselves. Condition: a list shorter than any machine's memory. | Which lists of texts are nuts: the program's way and the reference's say the same. Condition: a list shorter than any machine's memory. | How many nuts are in a part: the program's sum and the reference's are one. Conditions: nuts, a part inside. | Parts of nuts, and what is in each. Conditions: nuts, a part inside. | A map that a call keeps as its memory: what a look-up and a store do to it. Conditions: the keys are among a list; the map's key type is one of Go's. | The sizes and the parts of a bar with nuts, listed; how many parts of a size hold so many nuts. Conditions: nuts. | impl.GreatestPart, its literal and the search it is handed to: what the calls come to. Conditions: as each states. -/
import Derived.Test.YtedpdfmaccoinaaDoorPx2
import Derived.Test.YtedpdfmaccoinaaDoorPx8
import Derived.Test.YtedpdfmaccoinaaDoorPx7
import Derived.Test.YtedpdfmaccoinaaDoorPx17
import Derived.Test.YtedpdfmaccoinaaDoorPx1
import Derived.Test.YtedpdfmaccoinaaDoorPx3
import Derived.Test.YtedpdfmaccoinaaDoorOAreNuts
import Derived.Test.YtedpdfmaccoinaaDoorPx4
import Derived.Test.YtedpdfmaccoinaaDoorPx15
import Derived.Test.YtedpdfmaccoinaaDoorPx13
import Derived.Test.YtedpdfmaccoinaaDoorWMore
import Derived.Maps.OwnSet
import Derived.DeepKeys4
import Derived.MapViews
import Derived.Test.YtedpdfmaccoinaaDoorPx5
import Derived.Test.YtedpdfmaccoinaaDoorPx12
import Derived.Test.YtedpdfmaccoinaaDoorPx20
import Derived.Deep.RegionHeld3
import Derived.Lib.Hide
import Derived.Laws.EntriesVeiled
namespace Go.Proofs.YtedpdfmaccoinaaDoor.Pure
open Go.RowKit Go.Proofs.YtedpdfmaccoinaaDoor.P Go.Proofs.YtedpdfmaccoinaaDoorW.PrintWords Go.Proofs.YtedpdfmaccoinaaDoorW.PrintLast
theorem w64 {x : Int} (h0 : -9223372036854775808 ≤ x) (h1 : x ≤ 9223372036854775807) : wrap64 x = x := by
  unfold wrap64
  omega
theorem wf64 {x : Int} (h : (Lit.int .i64 x).wf = true) : -9223372036854775808 ≤ x ∧ x ≤ 9223372036854775807 := by
  simp [Lit.wf, IntKind.min, IntKind.max, IntKind.signed, IntKind.bits] at h
  omega
theorem l1In_some (a lo hi : Int) : spec_l1In.f a lo hi = some (decide (lo ≤ a ∧ a ≤ hi)) := by
  unfold spec_l1In.f
  by_cases h : a ≥ lo
  · rw [if_pos h]
    simp [show lo ≤ a from h]
  · rw [if_neg h]
    simp [show ¬ lo ≤ a from h]
theorem within_some (a lo hi : Int) : impl_within.f a lo hi = some (decide (lo ≤ a ∧ a ≤ hi)) := by
  unfold impl_within.f
  by_cases h : lo ≤ a
  · rw [if_pos h]
    simp [h]
  · rw [if_neg h]
    simp [h]
theorem rd_get (l : List Int) (i : Nat) (v : Int) (h : l[i]? = some v) : rd l (i : Int) = v := by
  unfold rd
  simp [h]
theorem rd_lt (l : List Int) (i : Nat) (h : i < l.length) : rd l (i : Int) = l[i] := rd_get l i _ (List.getElem?_eq_getElem h)
/-- A value that is there already, handed on (the rest stays folded). -/
theorem ev_val {α β : Type} {o : Option α} {a : α} {f : Nat → α → Option β} {r : β} (h : o = some a) (k : Ev (fun n => f n a) r) : Ev (fun n => o.bind (f n)) r := by
  subst h
  exact k
theorem ev_if_pos {β : Type} {c : Prop} [Decidable c] {f g : Nat → Option β} {r : β} (h : c) (k : Ev f r) : Ev (fun n => if c then f n else g n) r := by
  simp only [if_pos h]
  exact k
theorem ev_if_neg {β : Type} {c : Prop} [Decidable c] {f g : Nat → Option β} {r : β} (h : ¬ c) (k : Ev g r) : Ev (fun n => if c then f n else g n) r := by
  simp only [if_neg h]
  exact k
end Go.Proofs.YtedpdfmaccoinaaDoor.Pure
namespace Go.Proofs.YtedpdfmaccoinaaDoor.Pure
open Go.RowKit Go.Proofs.YtedpdfmaccoinaaDoor.P Go.Proofs.YtedpdfmaccoinaaDoorW.PrintWords Go.Proofs.YtedpdfmaccoinaaDoorW.PrintLast
theorem rs_get (l : List ByteArray) (i : Nat) (v : ByteArray) (h : l[i]? = some v) : rdOf ByteArray.empty l (i : Int) = v := by
  unfold rdOf
  simp [h]
theorem rs_lt (l : List ByteArray) (i : Nat) (h : i < l.length) : rdOf ByteArray.empty l (i : Int) = l[i] := rs_get l i _ (List.getElem?_eq_getElem h)
def sizes (l : List ByteArray) : Nat := (l.map fun s => s.size).sum
theorem sz_l0 (l : List ByteArray) (hm : l.length ≤ 1048576) (hs : ∀ s ∈ l, s.size ≤ 140737488351232) : ∀ (d i : Nat) (c : Int), i + d = l.length → 0 ≤ c → c ≤ 1048576 → ∃ t, Ev (fun k => laws_szStringS.l0 k l c (i : Int)) t ∧ (0 ≤ t → (sizes (l.drop i) : Int) ≤ c) := by
  intro d
  induction d with
  | zero =>
    intro i c hi hc0 hc
    refine ⟨c, Ev.step (f := fun _ => some c) (fun k => by simp only [laws_szStringS.l0]; rw [if_neg (by omega)]) (Ev.now _), fun _ => ?_⟩
    rw [List.drop_of_length_le (by omega)]
    simp [sizes]
    exact hc0
  | succ d ih =>
    intro i c hi hc0 hc
    have hlt : i < l.length := by omega
    have hsi := hs l[i] (List.getElem_mem hlt)
    have w1 : wrap64 (c - (l[i].size : Int)) = c - (l[i].size : Int) := w64 (by omega) (by omega)
    by_cases h : c - (l[i].size : Int) < 0
    · refine ⟨-1, Ev.step (f := fun _ => some (-1)) (fun k => ?_) (Ev.now _), fun h => by omega⟩
      simp only [laws_szStringS.l0, rs_lt l i hlt, w1]
      rw [if_pos (by omega), if_pos (by omega), if_pos h]
    · obtain ⟨t, s, ht⟩ := ih (i + 1) (c - (l[i].size : Int)) (by omega) (by omega) (by omega)
      refine ⟨t, Ev.step (fun k => ?_) s, fun h0 => ?_⟩
      · simp only [laws_szStringS.l0, rs_lt l i hlt, w1]
        rw [if_pos (by omega), if_pos (by omega), if_neg h, w64 (x := (i : Int) + 1) (by omega) (by omega)]
        rfl
      · have := ht h0
        rw [List.drop_eq_getElem_cons hlt]
        have e : sizes (l[i] :: l.drop (i + 1)) = l[i].size + sizes (l.drop (i + 1)) := rfl
        rw [e]
        omega
theorem sz_ev (l : List ByteArray) (hm : l.length ≤ maxLen) (hs : ∀ s ∈ l, s.size ≤ 140737488351232) : ∃ t, Ev (fun k => laws_szStringS.f k l 1048576) t ∧ (0 ≤ t → l.length ≤ 1048576 ∧ sizes l ≤ 1048576) := by
  unfold maxLen at hm
  have w1 : wrap64 (1048576 - (l.length : Int)) = 1048576 - (l.length : Int) := w64 (by omega) (by omega)
  unfold laws_szStringS.f
  simp only [w1]
  by_cases h : 1048576 - (l.length : Int) < 0
  · refine ⟨-1, ?_, fun h => by omega⟩
    simp only [if_pos h]
    exact Ev.now _
  · obtain ⟨t, s, ht⟩ := sz_l0 l (by omega) hs l.length 0 (1048576 - (l.length : Int)) (by omega) (by omega) (by omega)
    refine ⟨t, ?_, fun h0 => ⟨by omega, ?_⟩⟩
    · simp only [if_neg h]
      exact s
    · have := ht h0
      rw [List.drop_zero] at this
      omega
theorem toStringS_l0 (l : List ByteArray) (hn : l.length ≤ 1048576) : ∀ (d i : Nat) (o : List ByteArray), i + d = l.length → o.length = l.length → (∀ j, j < i → o[j]? = l[j]?) → ∀ k, d < k →
    laws_toStringS.l0 k l o (i : Int) = some l := by
  intro d
  induction d with
  | zero =>
    intro i o hi ho h k hk
    obtain ⟨m, rfl⟩ : ∃ m, k = m + 1 := ⟨k - 1, by omega⟩
    simp only [laws_toStringS.l0]
    rw [if_neg (by omega)]
    congr 1
    apply List.ext_getElem?
    intro j
    by_cases hj : j < i
    · exact h j hj
    · rw [List.getElem?_eq_none (by omega), List.getElem?_eq_none (by omega)]
  | succ d ih =>
    intro i o hi ho h k hk
    obtain ⟨m, rfl⟩ : ∃ m, k = m + 1 := ⟨k - 1, by omega⟩
    simp only [laws_toStringS.l0, Int.toNat_natCast]
    rw [if_pos (by omega), if_pos (by omega), if_pos (by omega), w64 (by omega) (by omega), rs_lt l i (by omega)]
    refine ih (i + 1) _ (by omega) (by rw [List.length_set]; omega) (fun j hj => ?_) m (by omega)
    by_cases hji : j = i
    · subst hji
      rw [List.getElem?_set_self (by omega), List.getElem?_eq_getElem (by omega)]
    · rw [List.getElem?_set_ne (by omega)]
      exact h j (by omega)
theorem toStringS_ev (l : List ByteArray) (hn : l.length ≤ 1048576) : Ev (fun k => laws_toStringS.f k l) l := by
  refine ⟨l.length + 1, fun k hk => ?_⟩
  show laws_toStringS.f k l = _
  unfold laws_toStringS.f
  rw [if_pos (by omega), if_pos (by rw [Int.toNat_natCast]; omega)]
  exact toStringS_l0 l hn l.length 0 _ (by omega) (by simp) (fun j hj => by omega) k (by omega)
theorem eqStringS_l0 (l : List ByteArray) (hn : l.length ≤ 1000000000000) : ∀ (d i : Nat), i + d = l.length → ∀ k, d < k → laws_eqStringS.l0 k l l (i : Int) = some true := by
  intro d
  induction d with
  | zero =>
    intro i hi k hk
    obtain ⟨m, rfl⟩ : ∃ m, k = m + 1 := ⟨k - 1, by omega⟩
    simp only [laws_eqStringS.l0]
    rw [if_neg (by omega)]
  | succ d ih =>
    intro i hi k hk
    obtain ⟨m, rfl⟩ : ∃ m, k = m + 1 := ⟨k - 1, by omega⟩
    simp only [laws_eqStringS.l0]
    rw [if_pos (by omega), if_pos (by omega), if_pos (by omega)]
    simp only [if_true]
    rw [w64 (by omega) (by omega)]
    exact ih (i + 1) (by omega) m (by omega)
theorem eqStringS_refl (l : List ByteArray) (hn : l.length ≤ 1000000000000) : Ev (fun k => laws_eqStringS.f k l l) true := by
  refine ⟨l.length + 1, fun k hk => ?_⟩
  simp only [laws_eqStringS.f, if_true]
  exact eqStringS_l0 l hn l.length 0 (by omega) k (by omega)
end Go.Proofs.YtedpdfmaccoinaaDoor.Pure
namespace Go.Proofs.YtedpdfmaccoinaaDoor.Pure
open Go.RowKit Go.Proofs.YtedpdfmaccoinaaDoor.P Go.Proofs.YtedpdfmaccoinaaDoorW.PrintWords Go.Proofs.YtedpdfmaccoinaaDoorW.PrintLast
theorem digitB_iff (b : UInt8) : digitB b = decide (48 ≤ b.toNat ∧ b.toNat ≤ 57) := by
  by_cases h : 48 ≤ b.toNat ∧ b.toNat ≤ 57
  · rw [decide_eq_true h]
    have hc : b.toNat = 48 ∨ b.toNat = 49 ∨ b.toNat = 50 ∨ b.toNat = 51 ∨ b.toNat = 52 ∨ b.toNat = 53 ∨ b.toNat = 54 ∨ b.toNat = 55 ∨ b.toNat = 56 ∨ b.toNat = 57 := by omega
    rcases hc with e | e | e | e | e | e | e | e | e | e
    · rw [show b = 48 from UInt8.toNat_inj.1 e]; decide
    · rw [show b = 49 from UInt8.toNat_inj.1 e]; decide
    · rw [show b = 50 from UInt8.toNat_inj.1 e]; decide
    · rw [show b = 51 from UInt8.toNat_inj.1 e]; decide
    · rw [show b = 52 from UInt8.toNat_inj.1 e]; decide
    · rw [show b = 53 from UInt8.toNat_inj.1 e]; decide
    · rw [show b = 54 from UInt8.toNat_inj.1 e]; decide
    · rw [show b = 55 from UInt8.toNat_inj.1 e]; decide
    · rw [show b = 56 from UInt8.toNat_inj.1 e]; decide
    · rw [show b = 57 from UInt8.toNat_inj.1 e]; decide
  · rw [decide_eq_false h]
    cases hd : digitB b with
    | false => rfl
    | true =>
      exfalso
      apply h
      unfold digitB at hd
      simp only [List.contains_eq_mem, List.mem_cons, List.not_mem_nil, or_false, decide_eq_true_eq] at hd
      rcases hd with rfl | rfl | rfl | rfl | rfl | rfl | rfl | rfl | rfl | rfl <;> decide
theorem bt_lt (s : ByteArray) (i : Nat) (h : i < s.size) : bt s (i : Int) = ((s.data.toList[i]'h).toNat : Int) := by
  unfold bt
  rw [dif_pos (by simpa using h)]
  rfl
def rowOk (n : Nat) (s : ByteArray) : Bool := decide (s.size = n) && s.data.toList.all digitB

theorem ntGood_l1 (x : List ByteArray) (s : ByteArray) (hs : s.size ≤ 1048576) (L : List ByteArray) (n q : Int) (r : Bool) (next : Ev (fun k => spec_ntGood.l0 k x L n (wrap64 (q + 1))) r) :
    ∀ (d i : Nat), i + d = s.size → Ev (fun k => spec_ntGood.l1 k x s (i : Int) L n q) ((s.data.toList.drop i).all digitB && r) := by
  intro d
  have hlen : s.data.toList.length = s.size := rfl
  induction d with
  | zero =>
    intro i hi
    rw [List.drop_of_length_le (by omega)]
    refine Ev.step (fun k => ?_) next
    simp only [spec_ntGood.l1]
    rw [if_neg (by omega)]
  | succ d ih =>
    intro i hi
    have hlt : i < s.size := by omega
    rw [List.drop_eq_getElem_cons (show i < s.data.toList.length by omega), List.all_cons, digitB_iff]
    have hb := bt_lt s i hlt
    generalize (s.data.toList[i]'hlt) = b at hb
    by_cases h1 : b.toNat < 48
    · rw [decide_eq_false (by omega), Bool.false_and, Bool.false_and]
      refine Ev.step (f := fun _ => some false) (fun k => ?_) (Ev.now _)
      simp only [spec_ntGood.l1, hb]
      rw [if_pos (by omega), if_pos (by omega), if_pos (by omega)]
    · by_cases h2 : b.toNat > 57
      · rw [decide_eq_false (by omega), Bool.false_and, Bool.false_and]
        refine Ev.step (f := fun _ => some false) (fun k => ?_) (Ev.now _)
        simp only [spec_ntGood.l1, hb]
        rw [if_pos (by omega), if_pos (by omega), if_neg (by omega), if_pos (by omega)]
      · rw [decide_eq_true (by omega), Bool.true_and]
        refine Ev.step (fun k => ?_) (ih (i + 1) (by omega))
        simp only [spec_ntGood.l1, hb]
        rw [if_pos (by omega), if_pos (by omega), if_neg (by omega), if_neg (by omega), w64 (by omega) (by omega)]
        rfl

theorem ntGood_l0 (l : List ByteArray) (hn : l.length ≤ 1048576) (hs : ∀ s ∈ l, s.size ≤ 1048576) (n : Nat) (h0 : (rdOf ByteArray.empty l 0).size = n) (hp : 0 < l.length) : ∀ (d i : Nat), i + d = l.length → Ev (fun k => spec_ntGood.l0 k l l (l.length : Int) (i : Int)) ((l.drop i).all (rowOk n)) := by
  intro d
  induction d with
  | zero =>
    intro i hi
    rw [List.drop_of_length_le (by omega)]
    refine Ev.step (f := fun _ => some true) (fun k => ?_) (Ev.now _)
    simp only [spec_ntGood.l0]
    rw [if_neg (by omega)]
  | succ d ih =>
    intro i hi
    have hlt : i < l.length := by omega
    rw [List.drop_eq_getElem_cons hlt, List.all_cons]
    unfold rowOk
    by_cases h : l[i].size = n
    · rw [decide_eq_true h, Bool.true_and]
      have s := ntGood_l1 l l[i] (hs _ (List.getElem_mem hlt)) l (l.length : Int) (i : Int) ((l.drop (i + 1)).all (rowOk n)) (by rw [w64 (by omega) (by omega)]; exact ih (i + 1) (by omega)) l[i].size 0 (by omega)
      rw [List.drop_zero] at s
      refine Ev.step (fun k => ?_) s
      simp only [spec_ntGood.l0, rs_lt l i hlt, h0]
      rw [if_pos (by omega), if_pos (by omega), if_pos (by omega), if_pos (by omega), if_pos (by omega)]
      rfl
    · rw [decide_eq_false h, Bool.false_and, Bool.false_and]
      refine Ev.step (f := fun _ => some false) (fun k => ?_) (Ev.now _)
      simp only [spec_ntGood.l0, rs_lt l i hlt, h0]
      rw [if_pos (by omega), if_pos (by omega), if_pos (by omega), if_pos (by omega), if_neg (by omega)]

/-- What nuts are: so many rows, each of so many digits. -/
structure Nuts (l : List ByteArray) (w : Nat) : Prop where
  rows1 : 1 ≤ l.length
  rows8 : l.length ≤ 8
  wide1 : 1 ≤ w
  wide8 : w ≤ 8
  wide : ∀ s ∈ l, s.size = w
  digit : ∀ s ∈ l, ∀ b ∈ s.data.toList, 48 ≤ b.toNat ∧ b.toNat ≤ 57

theorem not_any_not (p : ByteArray → Bool) : ∀ l : List ByteArray, (!(l.any fun s => !p s)) = l.all p
  | [] => rfl
  | x :: l => by rw [List.any_cons, List.all_cons, Bool.not_or, Bool.not_not, not_any_not p l]

theorem nutsB_eq (l : List ByteArray) (hp : 0 < l.length) : nutsB l = (decide (1 ≤ (l.length : Int) ∧ (l.length : Int) ≤ 8) && (decide ((1 : Int) ≤ ((l[0]).size : Int) ∧ ((l[0]).size : Int) ≤ (8 : Int)) && l.all (rowOk l[0].size))) := by
  unfold nutsB
  congr 1
  rw [getElem!_pos l 0 hp]
  generalize hn : l[0].size = n
  have h1 : (!l.any (badRow (n : Int) 8)) = l.all fun s => (decide ((s.size : Int) = (n : Int)) && (decide (1 ≤ (s.size : Int) ∧ (s.size : Int) ≤ 8) && s.data.toList.all digitB)) := by
    exact not_any_not _ l
  rw [h1]
  by_cases hb : 1 ≤ (n : Int) ∧ (n : Int) ≤ 8
  · rw [decide_eq_true hb, Bool.true_and]
    have : ∀ s : ByteArray, (decide ((s.size : Int) = (n : Int)) && (decide (1 ≤ (s.size : Int) ∧ (s.size : Int) ≤ 8) && s.data.toList.all digitB)) = rowOk n s := by
      intro s
      unfold rowOk
      by_cases e : s.size = n
      · rw [decide_eq_true e, decide_eq_true (by omega), decide_eq_true (by omega), Bool.true_and]
      · rw [decide_eq_false e, decide_eq_false (by omega), Bool.false_and, Bool.false_and]
    simp only [this]
  · rw [decide_eq_false hb, Bool.false_and]
    rw [List.all_eq_false]
    refine ⟨l[0], List.getElem_mem hp, ?_⟩
    rw [hn, decide_eq_false hb]
    simp

theorem size_le_sizes : ∀ (l : List ByteArray) (s : ByteArray), s ∈ l → s.size ≤ sizes l
  | x :: l, s, h => by
    have e : sizes (x :: l) = x.size + sizes l := rfl
    rcases List.mem_cons.1 h with rfl | h
    · omega
    · have := size_le_sizes l s h
      omega
theorem good_both (l : List ByteArray) (hn : l.length ≤ 1048576) (hz : sizes l ≤ 1048576) : ∃ b : Bool, Ev (fun k => spec_ntGood.f k l) b ∧ impl_AreNuts.f l = some b ∧ (b = true → ∃ w, Nuts l w) := by
  have hs : ∀ s ∈ l, s.size ≤ 1048576 := by
    intro s hs
    have : s.size ≤ sizes l := by
      exact size_le_sizes l s hs
    omega
  have hI : impl_AreNuts.f l = some (nutsB l) := by
    unfold impl_AreNuts.f
    rw [if_pos]
    rw [List.all_eq_true]
    intro s h
    have := hs s h
    exact decide_eq_true (by omega)
  refine ⟨nutsB l, ?_, hI, ?_⟩
  · unfold spec_ntGood.f
    simp only [l1In_some, Option.bind_some]
    by_cases h : 1 ≤ (l.length : Int) ∧ (l.length : Int) ≤ 8
    · have hp : 0 < l.length := by omega
      have h0 : rdOf ByteArray.empty l 0 = l[0] := rs_lt l 0 hp
      rw [nutsB_eq l hp, decide_eq_true h, Bool.true_and]
      simp only [if_true, h0, if_pos (show 0 < (l.length : Int) by omega)]
      by_cases h2 : (1 : Int) ≤ ((l[0]).size : Int) ∧ ((l[0]).size : Int) ≤ (8 : Int)
      · rw [decide_eq_true h2, Bool.true_and]
        have s := ntGood_l0 l hn hs l[0].size (by rw [h0]) hp l.length 0 (by omega)
        rw [List.drop_zero] at s
        exact Ev.step (fun k => by simp only [spec_ntGood.j0, Bool.not_true, Bool.false_eq_true, if_false]; rfl) s
      · rw [decide_eq_false h2, Bool.false_and]
        exact Ev.step (fun k => by simp only [spec_ntGood.j0, Bool.not_false, if_true]) (Ev.now _)
    · have : nutsB l = false := by
        unfold nutsB
        rw [decide_eq_false h, Bool.false_and]
      rw [this, decide_eq_false h]
      simp only [Bool.false_eq_true, if_false]
      exact Ev.step (fun k => by simp only [spec_ntGood.j0, if_true]) (Ev.now _)
  · intro h
    have hp : 0 < l.length := by
      unfold nutsB at h
      rw [Bool.and_eq_true, decide_eq_true_eq] at h
      omega
    rw [nutsB_eq l hp] at h
    simp only [Bool.and_eq_true, decide_eq_true_eq, List.all_eq_true] at h
    obtain ⟨h1, h2, h3⟩ := h
    refine ⟨l[0].size, by omega, by omega, by omega, by omega, fun s hs' => ?_, fun s hs' b hb => ?_⟩
    · have := h3 s hs'
      unfold rowOk at this
      rw [Bool.and_eq_true, decide_eq_true_eq] at this
      exact this.1
    · have := h3 s hs'
      unfold rowOk at this
      rw [Bool.and_eq_true, List.all_eq_true] at this
      have := this.2 b hb
      rw [digitB_iff, decide_eq_true_eq] at this
      exact this
end Go.Proofs.YtedpdfmaccoinaaDoor.Pure
namespace Go.Proofs.YtedpdfmaccoinaaDoor.Pure
open Go.RowKit Go.Proofs.YtedpdfmaccoinaaDoor.P Go.Proofs.YtedpdfmaccoinaaDoorW.PrintWords Go.Proofs.YtedpdfmaccoinaaDoorW.PrintLast
def dg (s : ByteArray) (i : Nat) : Int := bt s (i : Int) - 48
def rowSum (s : ByteArray) : Nat → Nat → Int
  | _, 0 => 0
  | i, d + 1 => dg s i + rowSum s (i + 1) d
def partSum (l : List ByteArray) (x W : Nat) : Nat → Nat → Int
  | _, 0 => 0
  | j, d + 1 => rowSum (rdOf ByteArray.empty l (j : Int)) x W + partSum l x W (j + 1) d
/-- A row of digits. -/
def Digits (s : ByteArray) (w : Nat) : Prop := s.size = w ∧ w ≤ 8 ∧ ∀ i, i < w → 48 ≤ bt s (i : Int) ∧ bt s (i : Int) ≤ 57
theorem Nuts.row {l : List ByteArray} {w : Nat} (h : Nuts l w) (j : Nat) (hj : j < l.length) : Digits (rdOf ByteArray.empty l (j : Int)) w := by
  rw [rs_lt l j hj]
  have hs := h.wide l[j] (List.getElem_mem hj)
  refine ⟨hs, h.wide8, fun i hi => ?_⟩
  rw [bt_lt _ i (by omega)]
  have := h.digit l[j] (List.getElem_mem hj) (l[j].data.toList[i]'(by show i < l[j].size; omega)) (List.getElem_mem _)
  omega
theorem rowSum_bd (s : ByteArray) (w : Nat) (h : Digits s w) : ∀ (d i : Nat), i + d ≤ w → 0 ≤ rowSum s i d ∧ rowSum s i d ≤ 9 * d := by
  intro d
  induction d with
  | zero => intro i hi; exact ⟨Int.le_refl _, by simp [rowSum]⟩
  | succ d ih =>
    intro i hi
    have a := ih (i + 1) (by omega)
    have b := h.2.2 i (by omega)
    have e : rowSum s i (d + 1) = (bt s (i : Int) - 48) + rowSum s (i + 1) d := rfl
    rw [e]
    omega
theorem partSum_bd {l : List ByteArray} {w : Nat} (h : Nuts l w) (x W : Nat) (hx : x + W ≤ w) : ∀ (d j : Nat), j + d ≤ l.length → 0 ≤ partSum l x W j d ∧ partSum l x W j d ≤ 72 * d := by
  intro d
  induction d with
  | zero => intro j hj; exact ⟨Int.le_refl _, by simp [partSum]⟩
  | succ d ih =>
    intro j hj
    have a := ih (j + 1) (by omega)
    have b := rowSum_bd _ w (h.row j (by omega)) W x hx
    have e : partSum l x W j (d + 1) = rowSum (rdOf ByteArray.empty l (j : Int)) x W + partSum l x W (j + 1) d := rfl
    have w8 := h.wide8
    rw [e]
    omega

section
variable {l : List ByteArray} {w : Nat}
theorem spec_sum_l1 (h : Nuts l w) (x X Y y : Nat) (hX : X ≤ w) (hy : y < l.length) (r : Int) (a0 : Int) (ha0 : 0 ≤ a0) (ha1 : a0 ≤ 100000)
    (next : Ev (fun k => spec_ntSum.l0 k l (x : Int) (X : Int) (Y : Int) (a0 + rowSum (rdOf ByteArray.empty l (y : Int)) x (X - x)) ((y + 1 : Nat) : Int)) r) :
    ∀ (d i : Nat) (a : Int), i + d = X → x ≤ i → a + rowSum (rdOf ByteArray.empty l (y : Int)) i d = a0 + rowSum (rdOf ByteArray.empty l (y : Int)) x (X - x) → 0 ≤ a → Ev (fun k => spec_ntSum.l1 k l (x : Int) (X : Int) (Y : Int) a (y : Int) (i : Int)) r := by
  have hd := h.row y hy
  have hl8 := h.rows8
  intro d
  induction d with
  | zero =>
    intro i a hi hxi ha h0
    have e : a = a0 + rowSum (rdOf ByteArray.empty l (y : Int)) x (X - x) := by rw [← ha]; simp [rowSum]
    subst e
    refine Ev.step (fun k => ?_) next
    simp only [spec_ntSum.l1]
    rw [if_neg (by omega), w64 (by omega) (by omega)]
    rfl
  | succ d ih =>
    intro i a hi hxi ha h0
    have b := hd.2.2 i (by omega)
    have hs := hd.1
    have bd := rowSum_bd _ w hd (X - x) x (by omega)
    have bd2 := rowSum_bd _ w hd d (i + 1) (by omega)
    have e1 : rowSum (rdOf ByteArray.empty l (y : Int)) i (d + 1) = (bt (rdOf ByteArray.empty l (y : Int)) (i : Int) - 48) + rowSum (rdOf ByteArray.empty l (y : Int)) (i + 1) d := rfl
    have w8 := h.wide8
    rw [e1] at ha
    refine Ev.step (fun k => ?_) (ih (i + 1) (a + (bt (rdOf ByteArray.empty l (y : Int)) (i : Int) - 48)) (by omega) (by omega) (by omega) (by omega))
    simp only [spec_ntSum.l1]
    rw [if_pos (by omega), if_pos (by omega), if_pos (by omega), if_pos (by omega), if_pos (by omega), w64 (x := (i : Int) + 1) (by omega) (by omega), show (bt (rdOf ByteArray.empty l (y : Int)) (i : Int) - 48) % 256 = bt (rdOf ByteArray.empty l (y : Int)) (i : Int) - 48 by omega, w64 (by omega) (by omega)]
    rfl
theorem spec_sum_l0 (h : Nuts l w) (x X Y : Nat) (hxX : x ≤ X) (hX : X ≤ w) (hY : Y ≤ l.length) :
    ∀ (d j : Nat) (a : Int), j + d = Y → 0 ≤ a → a ≤ 72 * j → Ev (fun k => spec_ntSum.l0 k l (x : Int) (X : Int) (Y : Int) a (j : Int)) (a + partSum l x (X - x) j d) := by
  have hl8 := h.rows8
  have w8 := h.wide8
  intro d
  induction d with
  | zero =>
    intro j a hj h0 h1
    refine Ev.step (f := fun _ => some (a + partSum l x (X - x) j 0)) (fun k => ?_) (Ev.now _)
    simp only [spec_ntSum.l0]
    rw [if_neg (by omega)]
    simp [partSum]
  | succ d ih =>
    intro j a hj h0 h1
    have bd := rowSum_bd _ w (h.row j (by omega)) (X - x) x (by omega)
    have next := ih (j + 1) (a + rowSum (rdOf ByteArray.empty l (j : Int)) x (X - x)) (by omega) (by omega) (by omega)
    have e : a + partSum l x (X - x) j (d + 1) = a + rowSum (rdOf ByteArray.empty l (j : Int)) x (X - x) + partSum l x (X - x) (j + 1) d := by
      show a + (_ + _) = _
      omega
    rw [e]
    refine Ev.step (fun k => ?_) (spec_sum_l1 h x X Y j hX (by omega) _ a h0 (by omega) next (X - x) x a (by omega) (Nat.le_refl _) rfl h0)
    simp only [spec_ntSum.l0]
    rw [if_pos (by omega)]
theorem ntSum_ev (h : Nuts l w) (x y X Y : Nat) (hxX : x ≤ X) (hX : X ≤ w) (hyY : y ≤ Y) (hY : Y ≤ l.length) : Ev (fun k => spec_ntSum.f k l (x : Int) (y : Int) (X : Int) (Y : Int)) (partSum l x (X - x) y (Y - y)) := by
  have := spec_sum_l0 h x X Y hxX hX hY (Y - y) y 0 (by omega) (Int.le_refl _) (by omega)
  rw [Int.zero_add] at this
  exact this

theorem impl_sum_l1 (h : Nuts l w) (L : List ByteArray) (n q : Int) (s : ByteArray) (hd : Digits s w) (x y W H : Nat) (hW : x + W ≤ w) (r : Int) (a0 : Int) (ha0 : 0 ≤ a0) (ha1 : a0 ≤ 100000)
    (next : Ev (fun k => impl_nutsIn.l0 k (a0 + rowSum s x W) L n (wrap64 (q + 1)) (x : Int) (y : Int) (W : Int) (H : Int)) r) :
    ∀ (d i : Nat) (a : Int), i + d = x + W → x ≤ i → a + rowSum s i d = a0 + rowSum s x W → 0 ≤ a → Ev (fun k => impl_nutsIn.l1 k a s (i : Int) L n q (x : Int) (y : Int) (W : Int) (H : Int)) r := by
  have hl8 := h.rows8
  have w8 := h.wide8
  have wX : wrap64 ((x : Int) + (W : Int)) = (x : Int) + (W : Int) := w64 (by omega) (by omega)
  intro d
  induction d with
  | zero =>
    intro i a hi hxi ha h0
    have e : a = a0 + rowSum s x W := by rw [← ha]; simp [rowSum]
    subst e
    refine Ev.step (fun k => ?_) next
    simp only [impl_nutsIn.l1, wX]
    rw [if_neg (by omega)]
  | succ d ih =>
    intro i a hi hxi ha h0
    have b := hd.2.2 i (by omega)
    have hs := hd.1
    have bd := rowSum_bd _ w hd W x (by omega)
    have bd2 := rowSum_bd _ w hd d (i + 1) (by omega)
    have e1 : rowSum s i (d + 1) = (bt s (i : Int) - 48) + rowSum s (i + 1) d := rfl
    rw [e1] at ha
    refine Ev.step (fun k => ?_) (ih (i + 1) (a + (bt s (i : Int) - 48)) (by omega) (by omega) (by omega) (by omega))
    simp only [impl_nutsIn.l1, wX]
    rw [if_pos (by omega), if_pos (by omega), if_pos (by omega), w64 (x := (i : Int) + 1) (by omega) (by omega), show (bt s (i : Int) - 48) % 256 = bt s (i : Int) - 48 by omega, w64 (by omega) (by omega)]
    rfl
theorem impl_sum_l0 (h : Nuts l w) (x y W H : Nat) (hW : x + W ≤ w) (hH : y + H ≤ l.length) (L : List ByteArray) (hL : L.length = H) (hr : ∀ j, j < H → rdOf ByteArray.empty L (j : Int) = rdOf ByteArray.empty l ((y + j : Nat) : Int)) :
    ∀ (d j : Nat) (a : Int), j + d = H → 0 ≤ a → a ≤ 72 * j → Ev (fun k => impl_nutsIn.l0 k a L (L.length : Int) (j : Int) (x : Int) (y : Int) (W : Int) (H : Int)) (a + partSum l x W (y + j) d) := by
  have hl8 := h.rows8
  have w8 := h.wide8
  intro d
  induction d with
  | zero =>
    intro j a hj h0 h1
    refine Ev.step (f := fun _ => some (a + partSum l x W (y + j) 0)) (fun k => ?_) (Ev.now _)
    simp only [impl_nutsIn.l0]
    rw [if_neg (by omega)]
    simp [partSum]
  | succ d ih =>
    intro j a hj h0 h1
    have hd := h.row (y + j) (by omega)
    have bd := rowSum_bd _ w hd W x (by omega)
    have next := ih (j + 1) (a + rowSum (rdOf ByteArray.empty l ((y + j : Nat) : Int)) x W) (by omega) (by omega) (by omega)
    have e : a + partSum l x W (y + j) (d + 1) = a + rowSum (rdOf ByteArray.empty l ((y + j : Nat) : Int)) x W + partSum l x W (y + (j + 1)) d := by
      show a + (_ + _) = _
      rw [show y + j + 1 = y + (j + 1) by omega]
      omega
    rw [e]
    refine Ev.step (fun k => ?_) (impl_sum_l1 h L (L.length : Int) (j : Int) _ hd x y W H hW _ a h0 (by omega) (by rw [w64 (by omega) (by omega)]; exact next) W x a (by omega) (Nat.le_refl _) rfl h0)
    simp only [impl_nutsIn.l0, hr j (by omega)]
    rw [if_pos (by omega), if_pos (by omega), if_pos (by omega)]
theorem nutsIn_ev (h : Nuts l w) (x y W H : Nat) (hW : x + W ≤ w) (hH : y + H ≤ l.length) : Ev (fun k => impl_nutsIn.f k l (x : Int) (y : Int) (W : Int) (H : Int)) (partSum l x W y H) := by
  have hl8 := h.rows8
  have w8 := h.wide8
  have wY : wrap64 ((y : Int) + (H : Int)) = ((y + H : Nat) : Int) := by rw [w64 (by omega) (by omega)]; omega
  have hlen : ((l.take (y + H)).drop y).length = H := by rw [List.length_drop, List.length_take]; omega
  have := impl_sum_l0 h x y W H hW hH ((l.take (y + H)).drop y) hlen (fun j hj => by
    rw [rs_lt _ j (by omega), rs_lt _ (y + j) (by omega)]
    simp) H 0 0 (by omega) (Int.le_refl _) (by omega)
  rw [Int.zero_add, Nat.add_zero] at this
  unfold impl_nutsIn.f
  simp only [wY, Int.toNat_natCast]
  simp only [if_pos (show 0 ≤ (y : Int) by omega), if_pos (show (y : Int) ≤ ((y + H : Nat) : Int) by omega), if_pos (show ((y + H : Nat) : Int) ≤ (l.length : Int) by omega)]
  exact this
end
end Go.Proofs.YtedpdfmaccoinaaDoor.Pure
namespace Go.Proofs.YtedpdfmaccoinaaDoor.Pure
open Go.RowKit Go.Proofs.YtedpdfmaccoinaaDoor.P Go.Proofs.YtedpdfmaccoinaaDoorW.PrintWords Go.Proofs.YtedpdfmaccoinaaDoorW.PrintLast
theorem w64n (a b : Nat) (h : a + b ≤ 1000000000) : wrap64 ((a : Int) + (b : Int)) = ((a + b : Nat) : Int) := by rw [w64 (by omega) (by omega)]; omega
theorem w64s (a : Nat) (h : a ≤ 100000000) : wrap64 ((a : Int) + 1) = ((a + 1 : Nat) : Int) := by rw [w64 (by omega) (by omega)]; omega
theorem nsum_at {l : List ByteArray} {w : Nat} (h : Nuts l w) (x y W H : Nat) (hx : x + W ≤ w) (hy : y + H ≤ l.length) : Ev (fun k => spec_ntSum.f k l (x : Int) (y : Int) ((x + W : Nat) : Int) ((y + H : Nat) : Int)) (partSum l x W y H) := by
  have s := ntSum_ev h x y (x + W) (y + H) (by omega) hx (by omega) hy
  rwa [show x + W - x = W by omega, show y + H - y = H by omega] at s
def rowFrom (y : Nat) : Nat → Nat → List (Nat × Nat)
  | _, 0 => []
  | x, d + 1 => (x, y) :: rowFrom y (x + 1) d
def allFrom (n : Nat) : Nat → Nat → List (Nat × Nat)
  | _, 0 => []
  | y, d + 1 => rowFrom y 0 n ++ allFrom n (y + 1) d
def mkP (W H : Nat) (p : Nat × Nat) : S50 := ⟨(p.1 : Int), (p.2 : Int), ⟨(W : Int), (H : Int)⟩⟩
section
variable {l : List ByteArray} {w : Nat}
theorem parts_l1 (h : Nuts l w) (W H y : Nat) (hy : y + H ≤ l.length) (hW8 : W ≤ 12) (r : List S50) : ∀ (d x : Nat) (acc : List S50), x + d = w + 1 - W → acc.length + d ≤ 1000 →
    Ev (fun k => impl_parts.l0 k l (acc ++ (rowFrom y x d).map (mkP W H)) ((y + 1 : Nat) : Int) (W : Int) (H : Int)) r →
    Ev (fun k => impl_parts.l1 k l acc (y : Int) (x : Int) (W : Int) (H : Int)) r := by
  have h8 := h.rows8
  have h1 := h.rows1
  have w8 := h.wide8
  have h0 : ((rdOf ByteArray.empty l 0).size : Int) = (w : Int) := by
    have := (h.row 0 (by omega)).1
    simp only [Int.natCast_zero] at this
    omega
  intro d
  induction d with
  | zero =>
    intro x acc hx ha next
    rw [show acc ++ (rowFrom y x 0).map (mkP W H) = acc from List.append_nil _] at next
    refine Ev.step (fun k => ?_) next
    simp only [impl_parts.l1, h0]
    rw [if_pos (by omega), w64 (x := (x : Int) + W) (by omega) (by omega), if_neg (by omega), w64 (by omega) (by omega)]
    rfl
  | succ d ih =>
    intro x acc hx ha next
    rw [show acc ++ (rowFrom y x (d + 1)).map (mkP W H) = (acc ++ [mkP W H (x, y)]) ++ (rowFrom y (x + 1) d).map (mkP W H) by simp [rowFrom]] at next
    refine Ev.step (fun k => ?_) (ih (x + 1) (acc ++ [mkP W H (x, y)]) (by omega) (by rw [List.length_append, List.length_singleton]; omega) next)
    simp only [impl_parts.l1, h0]
    rw [if_pos (by omega), w64 (x := (x : Int) + W) (by omega) (by omega), if_pos (by omega), if_pos (by omega), w64 (by omega) (by omega)]
    rfl
theorem rowFrom_len (y : Nat) : ∀ d x, (rowFrom y x d).length = d
  | 0, _ => rfl
  | d + 1, x => by rw [show rowFrom y x (d + 1) = (x, y) :: rowFrom y (x + 1) d from rfl, List.length_cons, rowFrom_len y d]
theorem parts_l0 (h : Nuts l w) (W H : Nat) (hW8 : W ≤ 12) (hH8 : H ≤ 12) : ∀ (d y : Nat) (acc : List S50), (y + d = l.length + 1 - H) → acc.length + 9 * d ≤ 500 →
    Ev (fun k => impl_parts.l0 k l acc (y : Int) (W : Int) (H : Int)) (acc ++ (allFrom (w + 1 - W) y d).map (mkP W H)) := by
  have h8 := h.rows8
  have w8 := h.wide8
  intro d
  induction d with
  | zero =>
    intro y acc hy ha
    rw [show acc ++ (allFrom (w + 1 - W) y 0).map (mkP W H) = acc from List.append_nil _]
    refine Ev.step (f := fun _ => some acc) (fun k => ?_) (Ev.now _)
    simp only [impl_parts.l0]
    rw [w64 (by omega) (by omega), if_neg (by omega)]
  | succ d ih =>
    intro y acc hy ha
    have n := ih (y + 1) (acc ++ (rowFrom y 0 (w + 1 - W)).map (mkP W H)) (by omega) (by rw [List.length_append, List.length_map, rowFrom_len]; omega)
    rw [show acc ++ (allFrom (w + 1 - W) y (d + 1)).map (mkP W H) = (acc ++ (rowFrom y 0 (w + 1 - W)).map (mkP W H)) ++ (allFrom (w + 1 - W) (y + 1) d).map (mkP W H) by simp [allFrom]]
    refine Ev.step (fun k => ?_) (parts_l1 h W H y (by omega) hW8 _ (w + 1 - W) 0 acc (by omega) (by omega) n)
    simp only [impl_parts.l0]
    rw [w64 (by omega) (by omega), if_pos (by omega)]
    rfl
/-- Places inside. -/
def Fits (l : List ByteArray) (w W H : Nat) (ps : List (Nat × Nat)) : Prop := ∀ p ∈ ps, p.1 + W ≤ w ∧ p.2 + H ≤ l.length
theorem rowFrom_fits (W H y : Nat) (hy : y + H ≤ l.length) : ∀ d x, x + d = w + 1 - W → Fits l w W H (rowFrom y x d) := by
  intro d
  induction d with
  | zero => intro x hx p hp; exact absurd hp (List.not_mem_nil)
  | succ d ih =>
    intro x hx p hp
    rcases List.mem_cons.1 hp with rfl | hp
    · exact ⟨by show x + W ≤ w; omega, hy⟩
    · exact ih (x + 1) (by omega) p hp
theorem allFrom_fits (W H : Nat) : ∀ d y, y + d = l.length + 1 - H → Fits l w W H (allFrom (w + 1 - W) y d) := by
  intro d
  induction d with
  | zero => intro y hy p hp; exact absurd hp (List.not_mem_nil)
  | succ d ih =>
    intro y hy p hp
    rcases List.mem_append.1 hp with hp | hp
    · exact rowFrom_fits W H y (by omega) _ 0 (by omega) p hp
    · exact ih (y + 1) (by omega) p hp
theorem allFrom_len (n : Nat) : ∀ d y, (allFrom n y d).length = d * n
  | 0, _ => by simp [allFrom]
  | d + 1, y => by rw [show allFrom n y (d + 1) = rowFrom y 0 n ++ allFrom n (y + 1) d from rfl, List.length_append, rowFrom_len, allFrom_len n d, Nat.succ_mul, Nat.add_comm]

end
end Go.Proofs.YtedpdfmaccoinaaDoor.Pure
namespace Go.Proofs.YtedpdfmaccoinaaDoor.Mem
open Go Go.Maps Go.RowKit Go.WideShapes
open Go.WideElems (Fit rd rg pl rd_val elemAt)
open Go.Proofs.YtedpdfmaccoinaaDoorW.PrintWords
set_option linter.unusedVariables false
/-- An element, as it stands. -/
def rawElem (v : Value) : Option (DataW Value × List MemPlace) := some (.held v, [])
theorem subset_length {α : Type} : ∀ (l KS : List α), l.Pairwise (fun p q => p ≠ q) → (∀ x ∈ l, x ∈ KS) → l.length ≤ KS.length
  | [], _, _, _ => Nat.zero_le _
  | x :: l, KS, hd, hs => by
    obtain ⟨h1, h2⟩ := List.pairwise_cons.1 hd
    obtain ⟨s, t, rfl⟩ := List.append_of_mem (hs x (by simp))
    have := subset_length l (s ++ t) h2 (fun y hy => by
      have hy' := hs y (by simp [hy])
      rcases List.mem_append.1 hy' with h | h
      · exact List.mem_append.2 (.inl h)
      · rcases List.mem_cons.1 h with rfl | h
        · exact absurd rfl (h1 _ hy)
        · exact List.mem_append.2 (.inr h))
    simp only [List.length_append, List.length_cons] at *
    omega
section
variable {H : Type} {P : Program} {k : TypeId} {R : Value → Option (DataW H × List MemPlace)} {w : World} {b n : Nat} {D : DataW H}
/-- A map whose keys are all among a list has no more entries than the list. -/
theorem tight (h : w.ownsMap P k R b n D) (K : Keyed P k) (KS : List Lit) (hk : ∀ l, Maps.has D l = true → l ∈ KS) : w.ownsMap P k R b KS.length D := by
  obtain ⟨es, clock, hb, F, hs, rfl⟩ := h
  refine ⟨es, clock, hb, F, ?_, rfl⟩
  have e1 : es.size = (((es.toList.map (rg P k R)).foldr DataW.insert []).map (·.1)).length := by
    rw [List.length_map, length_sorted]; simp
  rw [e1]
  refine subset_length _ KS ?_ ?_
  · rw [List.pairwise_map]
    exact ((sorted_perm _).pairwise_iff (fun {_ _} hne => Ne.symm hne)).2 (Maps.fit_apart K F)
  · intro l hl
    obtain ⟨p, hp, rfl⟩ := List.mem_map.1 hl
    refine hk _ ?_
    rw [Maps.has_eq]
    refine List.any_eq_true.2 ⟨p, hp, WideAt.sameKey_self ?_⟩
    obtain ⟨v, hv⟩ := Maps.fit_keys F p ((sorted_perm _).mem_iff.1 hp)
    exact K.key hv
end
/-- Block M is a map; whatever it holds at an x's key is right for x. -/
structure Memo {α : Type} (P : Program) (k : TypeId) (M : Nat) (KS : List Lit) (key : α → Lit) (G : α → Value → Prop) (W : World) : Prop where
  out : ∃ D : DataW Value, W.ownsMap P k rawElem M KS.length D ∧ (∀ l, Maps.has D l = true → l ∈ KS) ∧ ∀ x, Maps.has D (key x) = true → ∃ v, (∀ z, D.atKey (key x) z = .held v) ∧ G x v
section
variable {α : Type} {P : Program} {k e t : TypeId} {M : Nat} {KS : List Lit} {key : α → Lit} {G G' : α → Value → Prop} {W W' : World}
theorem Memo.block (h : Memo P k M KS key G W) : ∃ es clock, W.heap[M]? = some (.map es clock) := by
  obtain ⟨D, ⟨es, clock, hb, _⟩, _⟩ := h.out
  exact ⟨es, clock, hb⟩
theorem Memo.lt (h : Memo P k M KS key G W) : M < W.heap.size := by
  obtain ⟨es, clock, hb⟩ := h.block
  exact (Array.getElem?_eq_some_iff.1 hb).1
theorem Memo.ne (h : Memo P k M KS key G W) {g : Nat} {cs : Array Value} {ty : TypeId} {fz : Nat × Nat} (hg : W.heap[g]? = some (.cells cs ty fz)) : g ≠ M := by
  rintro rfl
  obtain ⟨es, clock, hb⟩ := h.block
  rw [hb] at hg
  cases hg
theorem Memo.kept (h : Memo P k M KS key G W) {row : Option Nat} (hg : W.grownBy W' row) (hne : some M ≠ row) : Memo P k M KS key G W' := by
  obtain ⟨D, h1, h2⟩ := h.out
  exact ⟨D, h1.kept hg hne, h2⟩
theorem Memo.mono (h : Memo P k M KS key G W) (hG : ∀ x v, G x v → G' x v) : Memo P k M KS key G' W := by
  obtain ⟨D, h1, h2, h3⟩ := h.out
  exact ⟨D, h1, h2, fun x hx => let ⟨v, a, b⟩ := h3 x hx; ⟨v, a, hG x v b⟩⟩
theorem Memo.made (W : World) (P : Program) (k : TypeId) (KS : List Lit) (key : α → Lit) (G : α → Value → Prop) : Memo P k W.heap.size KS key G (W.alloc (.map #[] 0)) :=
  ⟨.map [], (World.ownsMap_made W P k rawElem).mono (Nat.zero_le _), fun l h => by simp [Maps.has_eq] at h, fun x h => by simp [Maps.has_eq] at h⟩
theorem grown_below {w w' : World} (h : Below w.heap.size w w') (row : Option Nat) : w.grownBy w' row := ⟨h.os, h.tape, h.output, h.size, fun i hi _ => h.block i hi⟩
theorem grown_drewN (w : World) (n : Nat) (row : Option Nat) : w.grownBy (w.drewN n) row := grown_below (pw_below_drewN (Below.refl _ _) n) row
theorem grown_trans {a b c : World} {row : Option Nat} (h : a.grownBy b row) (k : b.grownBy c row) : a.grownBy c row :=
  ⟨k.os.trans h.os, k.tape.trans h.tape, k.output.trans h.output, Nat.le_trans h.size k.size, fun i hi hn => (k.block i (Nat.lt_of_lt_of_le hi h.size) hn).trans (h.block i hi hn)⟩
/-- A store into a block that is younger than the first world. -/
theorem grown_set {a b : World} {row : Option Nat} (h : a.grownBy b row) {g : Nat} (hg : a.heap.size ≤ g) (i : Nat) (u : Value) : a.grownBy (b.setCell ⟨g, i, none⟩ u) row := by
  have hb : Below a.heap.size b (b.setCell ⟨g, i, none⟩ u) := (Below.refl _ _).setCell hg _
  exact ⟨hb.os.trans h.os, hb.tape.trans h.tape, hb.output.trans h.output, Nat.le_trans h.size hb.size, fun j hj hn => (hb.block j hj).trans (h.block j hj hn)⟩
theorem gr_alloc {a b : World} {row : Option Nat} (h : a.grownBy b row) (o : Obj) : a.grownBy (b.alloc o) row := grown_trans h (World.grownBy_alloc b o row)
theorem gr_drew {a b : World} {row : Option Nat} (h : a.grownBy b row) : a.grownBy b.drew row := ⟨h.os, h.tape, h.output, h.size, h.block⟩
theorem gr_drewN {a b : World} {row : Option Nat} (h : a.grownBy b row) (n : Nat) : a.grownBy (b.drewN n) row := ⟨h.os, h.tape, h.output, h.size, h.block⟩
theorem me_alloc {W : World} (h : Memo P k M KS key G W) (o : Obj) : Memo P k M KS key G (W.alloc o) := h.kept (World.grownBy_alloc W o none) (by simp)
theorem me_drew {W : World} (h : Memo P k M KS key G W) : Memo P k M KS key G W.drew := h.kept (gr_drew (World.grownBy.refl W none)) (by simp)
theorem me_drewN {W : World} (h : Memo P k M KS key G W) (n : Nat) : Memo P k M KS key G (W.drewN n) := h.kept (grown_drewN W n none) (by simp)
theorem me_below {W W' : World} (h : Memo P k M KS key G W) (hb : Below W.heap.size W W') : Memo P k M KS key G W' := h.kept (grown_below hb none) (by simp)
theorem me_set {W : World} (h : Memo P k M KS key G W) {g : Nat} (hg : g ≠ M) (i : Nat) (u : Value) : Memo P k M KS key G (W.setCell ⟨g, i, none⟩ u) := by
  obtain ⟨D, h1, h2⟩ := h.out
  exact ⟨D, h1.setCell (a := ⟨g, i, none⟩) (Ne.symm hg) u, h2⟩
end
section
variable {α : Type} {P : Program} {ops : Array Oper} {rest : List Oper} {o : Oper} {a : Act} {Q : Exit → Act → World → Prop} {W : World} {k : TypeId} {M : Nat} {KS : List Lit} {key : α → Lit} {G : α → Value → Prop}
/-- 'v, ok := m[x]'. -/
theorem wp_look (hg : o.guard = none) (m x : Operand) (t : TypeId) (hop : o.op = Op.lookup t m x true)
    (e : TypeId) (K : Keyed P k) (ht : P.underlying t = some (.map k e)) {z : Value} (hz : (zeroValue e).run P W = .ok z W)
    (hm : a.eval m = .map (some M)) (h : Memo P k M KS key G W) (y : α) (kv : Value) (hx : a.eval x = kv) (hkey : keyOf P k kv = some (key y))
    (hit : ∀ v, G y v → wpList P ops Q rest (a.put o.dst (.tuple #[v, .bool true])) W)
    (miss : wpList P ops Q rest (a.put o.dst (.tuple #[z, .bool false])) W) :
    wpList P ops Q (o :: rest) a W := by
  obtain ⟨D, h1, h2, h3⟩ := h.out
  refine wpList_lookup_own_ok W hg m x t hop k e K ht rawElem hz (.held z) [] rfl M KS.length D hm h1 kv (key y) hx hkey ?_
  intro v ps hv
  cases hh : Maps.has D (key y) with
  | true =>
    obtain ⟨v', hat, hG⟩ := h3 y hh
    rw [hat] at hv
    obtain rfl : v = v' := by
      have := congrArg (fun q : Option (DataW Value × List MemPlace) => q.map (·.1)) hv
      simp [rawElem] at this
      exact this
    exact hit v hG
  | false =>
    rw [Maps.atKey_of_not_has hh] at hv
    obtain rfl : v = z := by
      have := congrArg (fun q : Option (DataW Value × List MemPlace) => q.map (·.1)) hv
      simp [rawElem] at this
      exact this
    exact miss
/-- 'm[x] = v'. -/
theorem wp_store (hg : o.guard = none) (m x v : Operand) (t : TypeId) (hop : o.op = Op.mapUpdate t m x v)
    (e : TypeId) (K : Keyed P k) (ht : P.underlying t = some (.map k e)) (hn : KS.length < maxLen)
    (hm : a.eval m = .map (some M)) (h : Memo P k M KS key G W) (y : α) (kv val : Value) (hx : a.eval x = kv) (hv : a.eval v = val) (hkey : keyOf P k kv = some (key y))
    (hin : key y ∈ KS) (hsame : ∀ y', key y' = key y → G y' val)
    (hK : ∀ W', Memo P k M KS key G W' → W.grownBy W' (some M) → wpList P ops Q rest (a.put o.dst undef) W') :
    wpList P ops Q (o :: rest) a W := by
  obtain ⟨D, h1, h2, h3⟩ := h.out
  refine wpList_mapUpdate_own W hg m x v t hop k e K ht rawElem M KS.length D hm h1 hn kv val (key y) hx hv hkey (.held val) [] rfl ?_
  intro W' hown hgr
  have hD : IsMap D := h1.isMap
  have hkl : WideAt.IsKeyLit (key y) := K.key hkey
  have hks : ∀ l, Maps.has (D.put (key y) (.held val)) l = true → l ∈ KS := by
    intro l hl
    by_cases e : l = key y
    · rw [e]; exact hin
    · rw [Maps.has_put_other e] at hl
      exact h2 l hl
  refine hK W' ⟨D.put (key y) (.held val), tight hown K KS hks, hks, ?_⟩ hgr
  intro x' hx'
  by_cases e : key x' = key y
  · refine ⟨val, fun z => ?_, hsame x' e⟩
    rw [e]; exact Maps.atKey_put_same hD hkl _ z
  · rw [Maps.has_put_other e] at hx'
    obtain ⟨v', hat, hG⟩ := h3 x' hx'
    exact ⟨v', fun z => by rw [Maps.atKey_put_other e]; exact hat z, hG⟩
end
end Go.Proofs.YtedpdfmaccoinaaDoor.Mem
namespace Go.Proofs.YtedpdfmaccoinaaDoor.Pure
open Go.RowKit Go.Proofs.YtedpdfmaccoinaaDoor.P Go.Proofs.YtedpdfmaccoinaaDoorW.PrintWords Go.Proofs.YtedpdfmaccoinaaDoorW.PrintLast
def cntP (l : List ByteArray) (W H : Nat) (a : Int) : List (Nat × Nat) → Nat
  | [] => 0
  | p :: ps => (if partSum l p.1 W p.2 H = a then 1 else 0) + cntP l W H a ps
theorem cntP_le (l : List ByteArray) (W H : Nat) (a : Int) : ∀ ps, cntP l W H a ps ≤ ps.length
  | [] => Nat.le_refl _
  | p :: ps => by
    have := cntP_le l W H a ps
    show (if partSum l p.1 W p.2 H = a then 1 else 0) + cntP l W H a ps ≤ ps.length + 1
    by_cases c : partSum l p.1 W p.2 H = a
    · rw [if_pos c]; omega
    · rw [if_neg c]; omega
theorem cntP_append (l : List ByteArray) (W H : Nat) (a : Int) (qs : List (Nat × Nat)) : ∀ ps, cntP l W H a (ps ++ qs) = cntP l W H a ps + cntP l W H a qs
  | [] => by simp [cntP]
  | p :: ps => by
    show _ + cntP l W H a (ps ++ qs) = (_ + cntP l W H a ps) + _
    rw [cntP_append l W H a qs ps, Nat.add_assoc]
def pcnt (l : List ByteArray) (w : Nat) (a : Int) (s : Nat × Nat) : Nat := cntP l s.1 s.2 a (allFrom (w + 1 - s.1) 0 (l.length + 1 - s.2))
def tsum (l : List ByteArray) (w : Nat) (a : Int) : List (Nat × Nat) → Nat
  | [] => 0
  | s :: ss => pcnt l w a s + tsum l w a ss
theorem tsum_append (l : List ByteArray) (w : Nat) (a : Int) (qs : List (Nat × Nat)) : ∀ ps, tsum l w a (ps ++ qs) = tsum l w a ps + tsum l w a qs
  | [] => by simp [tsum]
  | p :: ps => by
    show _ + tsum l w a (ps ++ qs) = (_ + tsum l w a ps) + _
    rw [tsum_append l w a qs ps, Nat.add_assoc]
def szRow (W : Nat) : Nat → Nat → List (Nat × Nat)
  | _, 0 => []
  | H, d + 1 => (W, H) :: szRow W (H + 1) d
def szAll (h : Nat) : Nat → Nat → List (Nat × Nat)
  | _, 0 => []
  | W, d + 1 => szRow W 1 h ++ szAll h (W + 1) d
def mkS (s : Nat × Nat) : S30 := ⟨(s.1 : Int), (s.2 : Int)⟩
theorem szRow_len (W : Nat) : ∀ d H, (szRow W H d).length = d
  | 0, _ => rfl
  | d + 1, H => by rw [show szRow W H (d + 1) = (W, H) :: szRow W (H + 1) d from rfl, List.length_cons, szRow_len W d]
theorem szAll_len (h : Nat) : ∀ d W, (szAll h W d).length = d * h
  | 0, _ => by simp [szAll]
  | d + 1, W => by rw [show szAll h W (d + 1) = szRow W 1 h ++ szAll h (W + 1) d from rfl, List.length_append, szRow_len, szAll_len h d, Nat.succ_mul, Nat.add_comm]
theorem szRow_mem (W : Nat) : ∀ (d H : Nat) (s : Nat × Nat), s ∈ szRow W H d → s.1 = W ∧ H ≤ s.2 ∧ s.2 < H + d := by
  intro d
  induction d with
  | zero => intro H s hs; exact absurd hs (List.not_mem_nil)
  | succ d ih =>
    intro H s hs
    rcases List.mem_cons.1 hs with rfl | hs
    · exact ⟨rfl, Nat.le_refl _, by show H < H + (d + 1); omega⟩
    · have := ih (H + 1) s hs
      exact ⟨this.1, by omega, by omega⟩
theorem szAll_mem (h : Nat) : ∀ (d W : Nat) (s : Nat × Nat), s ∈ szAll h W d → W ≤ s.1 ∧ s.1 < W + d ∧ 1 ≤ s.2 ∧ s.2 ≤ h := by
  intro d
  induction d with
  | zero => intro W s hs; exact absurd hs (List.not_mem_nil)
  | succ d ih =>
    intro W s hs
    rcases List.mem_append.1 hs with hs | hs
    · have := szRow_mem W h 1 s hs
      exact ⟨by omega, by omega, by omega, by omega⟩
    · have := ih (W + 1) s hs
      exact ⟨by omega, by omega, this.2.2.1, this.2.2.2⟩
section
variable {l : List ByteArray} {w : Nat}
theorem pcnt_le (h : Nuts l w) (a : Int) (s : Nat × Nat) : pcnt l w a s ≤ 81 := by
  have := cntP_le l s.1 s.2 a (allFrom (w + 1 - s.1) 0 (l.length + 1 - s.2))
  rw [allFrom_len] at this
  have h8 := h.rows8
  have w8 := h.wide8
  have : (l.length + 1 - s.2) * (w + 1 - s.1) ≤ 9 * 9 := Nat.mul_le_mul (by omega) (by omega)
  unfold pcnt
  omega
theorem nparts_l1 (h : Nuts l w) (W H y : Nat) (hy : y + H ≤ l.length) (hW : W ≤ w) (a : Int) (r : Int) : ∀ (d x c : Nat), x + d = w + 1 - W → c + d ≤ 1000 →
    Ev (fun k => spec_ntParts.l0 k l (W : Int) (H : Int) a ((c + cntP l W H a (rowFrom y x d) : Nat) : Int) ((y + 1 : Nat) : Int)) r →
    Ev (fun k => spec_ntParts.l1 k l (W : Int) (H : Int) a (c : Int) (y : Int) (x : Int)) r := by
  have h8 := h.rows8
  have h1 := h.rows1
  have w8 := h.wide8
  have h0 : ((rdOf ByteArray.empty l 0).size : Int) = (w : Int) := by
    have := (h.row 0 (by omega)).1
    simp only [Int.natCast_zero] at this
    omega
  intro d
  induction d with
  | zero =>
    intro x c hx hc next
    refine Ev.step (fun k => ?_) next
    simp only [spec_ntParts.l1, h0]
    rw [if_pos (by omega), w64 (x := (x : Int) + W) (by omega) (by omega), if_neg (by omega), w64 (by omega) (by omega)]
    rfl
  | succ d ih =>
    intro x c hx hc next
    have s := nsum_at h x y W H (by omega) hy
    have hxw : ((x + W : Nat) : Int) ≤ (w : Int) := by omega
    have hp : 0 < (l.length : Int) := by omega
    have q1 : x + 1 + d = w + 1 - W := by omega
    have q2 : c + 1 + d ≤ 1000 := by omega
    have q3 : c + d ≤ 1000 := by omega
    have q4 : x + W ≤ 1000000000 := by omega
    have q5 : y + H ≤ 1000000000 := by omega
    have q6 : x ≤ 100000000 := by omega
    have q7 : c ≤ 100000000 := by omega
    have e1 := w64n x W q4
    have e2 := w64n y H q5
    have e3 := w64s x q6
    have e4 := w64s c q7
    have hq : cntP l W H a (rowFrom y x (d + 1)) = (if partSum l x W y H = a then 1 else 0) + cntP l W H a (rowFrom y (x + 1) d) := rfl
    rw [hq] at next
    refine Ev.step (fun k => by simp only [spec_ntParts.l1, h0, e1, e2, e3, e4]; rw [if_pos hp, if_pos hxw]) (Ev.bind s ?_)
    by_cases z : partSum l x W y H = a
    · rw [if_pos z, ← Nat.add_assoc] at next
      exact ev_if_pos z (ih (x + 1) (c + 1) q1 q2 next)
    · rw [if_neg z, Nat.zero_add] at next
      exact ev_if_neg z (ih (x + 1) c q1 q3 next)
theorem nparts_l0 (h : Nuts l w) (W H : Nat) (hH : H ≤ l.length) (hW : W ≤ w) (a : Int) : ∀ (d y c : Nat), y + d = l.length + 1 - H → c + 9 * d ≤ 900 →
    Ev (fun k => spec_ntParts.l0 k l (W : Int) (H : Int) a (c : Int) (y : Int)) ((c + cntP l W H a (allFrom (w + 1 - W) y d) : Nat) : Int) := by
  have h8 := h.rows8
  have w8 := h.wide8
  intro d
  induction d with
  | zero =>
    intro y c hy hc
    refine Ev.step (f := fun _ => some (c : Int)) (fun k => ?_) (Ev.now _)
    simp only [spec_ntParts.l0]
    rw [w64 (by omega) (by omega), if_neg (by omega)]
  | succ d ih =>
    intro y c hy hc
    have le := cntP_le l W H a (rowFrom y 0 (w + 1 - W))
    rw [rowFrom_len] at le
    have n := ih (y + 1) (c + cntP l W H a (rowFrom y 0 (w + 1 - W))) (by omega) (by omega)
    rw [show allFrom (w + 1 - W) y (d + 1) = rowFrom y 0 (w + 1 - W) ++ allFrom (w + 1 - W) (y + 1) d from rfl, cntP_append, ← Nat.add_assoc]
    refine Ev.step (fun k => ?_) (nparts_l1 h W H y (by omega) hW a _ (w + 1 - W) 0 c (by omega) (by omega) n)
    simp only [spec_ntParts.l0]
    rw [w64 (by omega) (by omega), if_pos (by omega)]
    rfl
theorem nparts_ev (h : Nuts l w) (W H : Nat) (hH : H ≤ l.length) (hW : W ≤ w) (a : Int) : Ev (fun k => spec_ntParts.f k l (W : Int) (H : Int) a) ((pcnt l w a (W, H) : Nat) : Int) := by
  have h8 := h.rows8
  have := nparts_l0 h W H hH hW a (l.length + 1 - H) 0 0 (by omega) (by omega)
  rw [Nat.zero_add] at this
  exact this
theorem sizes_l1 (W : Nat) (hl : l.length ≤ 8) (hW8 : W ≤ 8) (r : List S30) : ∀ (d H : Nat) (acc : List S30), H + d = l.length + 1 → acc.length + d ≤ 1000 →
    Ev (fun k => impl_sizes.l0 k l (acc ++ (szRow W H d).map mkS) ((W + 1 : Nat) : Int)) r → Ev (fun k => impl_sizes.l1 k l acc (W : Int) (H : Int)) r := by
  intro d
  induction d with
  | zero =>
    intro H acc hH ha next
    rw [show acc ++ (szRow W H 0).map mkS = acc from List.append_nil _] at next
    refine Ev.step (fun k => ?_) next
    simp only [impl_sizes.l1]
    rw [if_neg (by omega), w64 (by omega) (by omega)]
    rfl
  | succ d ih =>
    intro H acc hH ha next
    rw [show acc ++ (szRow W H (d + 1)).map mkS = (acc ++ [mkS (W, H)]) ++ (szRow W (H + 1) d).map mkS by simp [szRow]] at next
    refine Ev.step (fun k => ?_) (ih (H + 1) (acc ++ [mkS (W, H)]) (by omega) (by rw [List.length_append, List.length_singleton]; omega) next)
    simp only [impl_sizes.l1]
    rw [if_pos (by omega), if_pos (by omega), w64 (by omega) (by omega)]
    rfl
theorem sizes_l0 (h : Nuts l w) : ∀ (d W : Nat) (acc : List S30), W + d = w + 1 → acc.length + 8 * d ≤ 500 →
    Ev (fun k => impl_sizes.l0 k l acc (W : Int)) (acc ++ (szAll l.length W d).map mkS) := by
  have h8 := h.rows8
  have h1 := h.rows1
  have w8 := h.wide8
  have h0 : ((rdOf ByteArray.empty l 0).size : Int) = (w : Int) := by
    have := (h.row 0 (by omega)).1
    simp only [Int.natCast_zero] at this
    omega
  intro d
  induction d with
  | zero =>
    intro W acc hW ha
    rw [show acc ++ (szAll l.length W 0).map mkS = acc from List.append_nil _]
    refine Ev.step (f := fun _ => some acc) (fun k => ?_) (Ev.now _)
    simp only [impl_sizes.l0, h0]
    rw [if_pos (by omega), if_neg (by omega)]
  | succ d ih =>
    intro W acc hW ha
    have n := ih (W + 1) (acc ++ (szRow W 1 l.length).map mkS) (by omega) (by rw [List.length_append, List.length_map, szRow_len]; omega)
    rw [show acc ++ (szAll l.length W (d + 1)).map mkS = (acc ++ (szRow W 1 l.length).map mkS) ++ (szAll l.length (W + 1) d).map mkS by simp [szAll]]
    refine Ev.step (fun k => ?_) (sizes_l1 W h8 (by omega) _ l.length 1 acc (by omega) (by omega) n)
    simp only [impl_sizes.l0, h0]
    rw [if_pos (by omega), if_pos (by omega)]
    rfl
end
end Go.Proofs.YtedpdfmaccoinaaDoor.Pure
namespace Go.Proofs.YtedpdfmaccoinaaDoor.P
open Go.RowKit Go.Proofs.YtedpdfmaccoinaaDoorW.PrintWords Go.Proofs.YtedpdfmaccoinaaDoorW.PrintLast Go.Proofs.YtedpdfmaccoinaaDoorW.PrintMore Go.Proofs.YtedpdfmaccoinaaDoor.Pure
set_option linter.unusedVariables false
set_option linter.unusedSimpArgs false
def grt (l : List ByteArray) (w : Nat) (a : Int) (best s : Nat × Nat) : Nat × Nat := if s.1 * s.2 > best.1 * best.2 ∧ pcnt l w a s > 0 then s else best
def grBest (l : List ByteArray) (a : Int) : Nat × Nat := (szAll l.length 1 (rdOf ByteArray.empty l 0).size).foldl (grt l (rdOf ByteArray.empty l 0).size a) (0, 0)
def impl_GreatestPart.f (l0 : List ByteArray) (a1 : Int) : Option (Int × Int × Bool) := if l0.length ≤ 1048576 ∧ sizes l0 ≤ 1048576 then (impl_AreNuts.f l0).bind fun t => if t = true then (if a1 < 0 then some (0, 0, false) else some (((grBest l0 a1).1 : Int), ((grBest l0 a1).2 : Int), decide (0 < (grBest l0 a1).1 * (grBest l0 a1).2))) else some (0, 0, false) else none
section
variable {l : List ByteArray} {wd : Nat} {a1 : Int} {A0 : Option Addr} {c0 Bn Bm : Nat}
/-- The literal: whether a part holds just so many. -/
theorem great_lit (HN : Nuts l wd) {x y a b : Nat} (hx : x + a ≤ wd) (hy : y + b ≤ l.length) (W : World) (hbn : W.heap[Bn]? = some (.cells #[.slice A0 l.length c0] 22 (0, 0))) (hbm : W.heap[Bm]? = some (.cells #[.int .i64 a1] 3 (0, 0))) (hr : Kd.C Kd.string W A0 l.length l) (hc : l.length ≤ c0) :
    Calls Tryd.prog 44 #[.agg #[.int .i64 (x : Int), .int .i64 (y : Int), .int .i64 (a : Int), .int .i64 (b : Int)], .pointer (some ⟨Bn, 0, none⟩), .pointer (some ⟨Bm, 0, none⟩)] W fun e W' => e = .returned (.bool (partSum l x a y b == a1)) ∧ Below W.heap.size W W' := by
  obtain ⟨kn, hkn⟩ := nutsIn_ev HN x y a b hx hy
  have HNU := Aside0.mk (hkn kn (Nat.le_refl _))
  have HB := Aside0.mk (Below.refl W.heap.size W)
  have HN0 := Aside0.mk hbn
  have HM0 := Aside0.mk hbm
  have HR := Aside0.mk hr
  have HC := Aside0.mk hc
  clear hkn hbn hbm hr hc hx hy
  generalize partSum l x a y b = ps at HNU ⊢
  go_enter Tryd.func44, Tryd.ntmps44
  go_wp2_with (first | ((with_reducible refine gate_dst (N := 3) rfl ?_); refine box_event ?hg (N := 3) ?hd (cs := #[.int .i64 (x : Int), .int .i64 (y : Int), .int .i64 (a : Int), .int .i64 (b : Int)]) (t := 50) ?hr ?_; (case hd => rfl); (case hg => rfl); (case hr => first | (go_simp; done) | (go_simp; rfl)); intro g3 hg w1 hbox hb; have HB1 := Aside0.mk (below_step HB.out hb); have BK3 := Aside0.mk hbox; clear HB hb hbox hg))
  go_region_held3 (fun w' => w'.cell? ⟨g3, 0, none⟩ = some (.int .i64 (x : Int)) ∧ w'.cell? ⟨g3, 1, none⟩ = some (.int .i64 (y : Int)) ∧ w'.cell? ⟨g3, 2, none⟩ = some (.int .i64 (a : Int)) ∧ w'.cell? ⟨g3, 3, none⟩ = some (.int .i64 (b : Int)) ∧ w'.cell? ⟨Bn, 0, none⟩ = some (.slice A0 l.length c0) ∧ w'.cell? ⟨Bm, 0, none⟩ = some (.int .i64 a1)) (exact ⟨(blk_cell BK3.out 0).trans rfl, (blk_cell BK3.out 1).trans rfl, (blk_cell BK3.out 2).trans rfl, (blk_cell BK3.out 3).trans rfl, (blk_cell (blk_below HN0.out HB1.out) 0).trans rfl, (blk_cell (blk_below HM0.out HB1.out) 0).trans rfl⟩) (first | ((go_at_call 41; refine (impl_nutsIn.calls kn _ _ l _ _ _ _ _ _ (Kd.C_below HR.out (below_drew HB1.out)) HC.out HNU.out).mono ?_; rintro e w3 ⟨rfl, hb⟩; have n0_ := Aside0.mk (below_step (below_drew HB1.out) hb); have n1_ := Aside0.mk (blk_below (blk_drew BK3.out) hb); clear HB1 BK3 hb; have HB1 := n0_; have BK3 := n1_; clear n0_ n1_)))
  go_wp2
  go_ret
  exact ⟨rfl, HB1.out⟩
end
/-- slices.IndexFunc over parts, for a literal that may lay blocks of its own. -/
theorem rd50 (xs : List S50) (kk : Nat) (h : kk < xs.length) : rd_T50 xs (kk : Int) = xs[kk] := by
  unfold rd_T50
  rw [Int.toNat_natCast, List.getD_eq_getElem?_getD, List.getElem?_eq_getElem h]
  rfl
set_option maxHeartbeats 4000000 in
theorem parts_IndexFunc (g : Nat) (lb : Array Value) (eg : ∀ args w, (callFunc g args).run Tryd.prog w = .ok (.enter g args) w) (p : S50 → Bool) (v : Value) (xs : List S50) (base : Nat) (w : World) (hr : Kd.R k50 50 w base (fun _ => True) v xs) (hbig : xs.length ≤ 1000000)
    (hp : ∀ W, Below w.heap.size w W → ∀ s, s ∈ xs → Calls Tryd.prog g (#[.agg #[.int .i64 s.f0, .int .i64 s.f1, .int .i64 s.f2.f0, .int .i64 s.f2.f1]] ++ lb) W fun e W' => e = .returned (.bool (p s)) ∧ Below W.heap.size W W') :
    Calls Tryd.prog 63 #[v, .func (.func g) #[] lb] w fun e w' => ∃ r : Int, e = .returned (.int .i64 r) ∧ decide (0 ≤ r) = xs.any p ∧ Below w.heap.size w w' := by
  obtain ⟨Ar, cr, er⟩ := Kd.R_slice hr
  subst er
  have HR := Aside0.mk hr
  have HP := Aside0.mk hp
  have HBIG := Aside0.mk hbig
  clear hr hp hbig
  go_enter Tryd.func63, Tryd.ntmps63
  go_wp2
  go_loopg [5, 8] xs.length (fun gg _ s8 wr => ∃ kk : Nat, Aside0 (kk ≤ xs.length) ∧ Aside0 (xs.length - kk ≤ gg) ∧ s8 = .int .i64 kk ∧ Aside0 (Below w.heap.size w wr) ∧ Aside0 (∀ j (h : j < xs.length), j < kk → p xs[j] = false))
  case atStart => exact ⟨0, ⟨Nat.zero_le _⟩, ⟨by omega⟩, rfl, ⟨Below.refl _ w⟩, ⟨fun j h hj => absurd hj (Nat.not_lt_zero _)⟩⟩
  case round =>
    obtain ⟨kk, hkk, hg, rfl, BW, A⟩ := hrel
    by_cases hlt : kk < xs.length
    · have hltz : (kk : Int) < (xs.length : Int) := by omega
      have hz : (0 : Int) ≤ (kk : Int) := by omega
      have LT := Aside0.mk hlt
      have HQ := Aside0.mk (show xs.length - (kk + 1) < gk by have := hg.out; omega)
      have BND := HBIG.out
      obtain ⟨ad, ead, hx0, hx1, hx2, hx3⟩ := at_T50 (Kd.R_reads' (Kd.R_below HR.out BW.out)).2.2 (kk : Int) (by omega) (by omega)
      subst ead
      rw [rd50 xs kk hlt] at hx0 hx1 hx2 hx3
      rw [Int.toNat_natCast] at hx0 hx1 hx2 hx3
      have hcall := HP.out wr BW.out xs[kk] (List.getElem_mem hlt)
      obtain ⟨s, hs⟩ : ∃ s, xs[kk] = s := ⟨_, rfl⟩
      rw [hs] at hx0 hx1 hx2 hx3 hcall
      have SS := Aside0.mk hs
      have HCALL := Aside0.mk hcall
      clear hs hcall hg hkk
      cases hq : p s with
      | true =>
        rw [hq] at HCALL
        go_wp2_with (first | (go_at_fn g; refine HCALL.out.mono ?_; rintro e w2 ⟨rfl, hb⟩; have HB2 := Aside0.mk (below_step BW.out hb); clear hb))
        go_ret
        refine ⟨_, rfl, ?_, HB2.out⟩
        rw [decide_eq_true (by omega)]
        exact (List.any_eq_true.2 ⟨s, by rw [← SS.out]; exact List.getElem_mem LT.out, hq⟩).symm
      | false =>
        rw [hq] at HCALL
        have e2 : (kk : Int) + 1 ≤ 9000000 := by have := LT.out; omega
        go_wp2_with (first | (go_at_fn g; refine HCALL.out.mono ?_; rintro e w2 ⟨rfl, hb⟩; have HB2 := Aside0.mk (below_step BW.out hb); clear hb))
        go_roundg (xs.length - (kk + 1))
        case measure => have := HQ.out; omega
        case rel =>
          refine ⟨kk + 1, ⟨LT.out⟩, ⟨Nat.le_refl _⟩, by go_num, HB2, ⟨fun j h hj => ?_⟩⟩
          by_cases e : j = kk
          · subst e; rw [SS.out]; exact hq
          · exact A.out j h (by omega)
    · have hltz : ¬ (kk : Int) < (xs.length : Int) := by omega
      go_wp2
      go_ret
      refine ⟨_, rfl, ?_, BW.out⟩
      rw [decide_eq_false (by omega)]
      refine (List.any_eq_false.2 fun s hs => ?_).symm
      obtain ⟨j, h, rfl⟩ := List.mem_iff_getElem.1 hs
      rw [A.out j h (by omega)]
      decide
set_option maxHeartbeats 2000000 in
theorem parts_ContainsFunc (g : Nat) (lb : Array Value) (eg : ∀ args w, (callFunc g args).run Tryd.prog w = .ok (.enter g args) w) (p : S50 → Bool) (v : Value) (xs : List S50) (base : Nat) (w : World) (hr : Kd.R k50 50 w base (fun _ => True) v xs) (hbig : xs.length ≤ 1000000)
    (hp : ∀ W, Below w.heap.size w W → ∀ s, s ∈ xs → Calls Tryd.prog g (#[.agg #[.int .i64 s.f0, .int .i64 s.f1, .int .i64 s.f2.f0, .int .i64 s.f2.f1]] ++ lb) W fun e W' => e = .returned (.bool (p s)) ∧ Below W.heap.size W W') :
    Calls Tryd.prog 43 #[v, .func (.func g) #[] lb] w fun e w' => e = .returned (.bool (xs.any p)) ∧ Below w.heap.size w w' := by
  have C := Lib.hid (parts_IndexFunc g lb eg p v xs base w hr hbig hp)
  clear hr hp hbig eg
  generalize xs.any p = q at C ⊢
  go_enter Tryd.func43, Tryd.ntmps43
  go_wp2_with (go_at_call 63; refine C.out.mono ?_; rintro e w2 ⟨r, rfl, hr, hb⟩; have HR := Aside0.mk hr; have HB := Aside0.mk hb; clear hr hb C)
  go_ret
  exact ⟨by rw [← HR.out]; rfl, HB.out⟩
theorem grown_row {x y : World} {g : Nat} (h : x.grownBy y (some g)) (i : Nat) (u : Value) : x.grownBy (y.setCell ⟨g, i, none⟩ u) (some g) := by
  have hb : Below g y (y.setCell ⟨g, i, none⟩ u) := (Below.refl _ _).setCell (show g ≤ g from Nat.le_refl g) _
  refine ⟨hb.os.trans h.os, hb.tape.trans h.tape, hb.output.trans h.output, Nat.le_trans h.size hb.size, fun j hj hn => ?_⟩
  exact (Below.heap_setCell y _ u j (fun e => hn (by rw [e]))).trans (h.block j hj hn)
theorem gr_alloc {a b : World} {row : Option Nat} (h : a.grownBy b row) (o : Obj) : a.grownBy (b.alloc o) row := Go.Proofs.YtedpdfmaccoinaaDoor.Mem.gr_alloc h o
theorem gr_drew {a b : World} {row : Option Nat} (h : a.grownBy b row) : a.grownBy b.drew row := Go.Proofs.YtedpdfmaccoinaaDoor.Mem.gr_drew h
theorem gr_drewN {a b : World} {row : Option Nat} (h : a.grownBy b row) (n : Nat) : a.grownBy (b.drewN n) row := Go.Proofs.YtedpdfmaccoinaaDoor.Mem.gr_drewN h n
theorem rd30 (xs : List (Nat × Nat)) (n : Nat) (h : n < xs.length) : rd_T30 (xs.map mkS) (n : Int) = mkS xs[n] := by
  unfold rd_T30
  rw [Int.toNat_natCast, List.getD_eq_getElem?_getD, List.getElem?_map, List.getElem?_eq_getElem h]
  rfl
theorem squares_nat {a b : Nat} (ha : a ≤ 100) (hb : b ≤ 100) : impl_Bar_squares.f (a : Int) (b : Int) = some ((a * b : Nat) : Int) := by
  have h : a * b ≤ 100 * 100 := Nat.mul_le_mul ha hb
  have h2 : ((a * b : Nat) : Int) ≤ 10000 := by omega
  have h3 : (0 : Int) ≤ ((a * b : Nat) : Int) := Int.natCast_nonneg _
  rw [Int.natCast_mul] at h2 h3
  unfold impl_Bar_squares.f
  rw [Int.natCast_mul, w64 (by omega) (by omega)]
def grUp (l : List ByteArray) (w : Nat) (a : Int) (ss : List (Nat × Nat)) (n : Nat) : Nat × Nat := (ss.take n).foldl (grt l w a) (0, 0)
theorem grUp_succ (l : List ByteArray) (w : Nat) (a : Int) (ss : List (Nat × Nat)) (n : Nat) (h : n < ss.length) : grUp l w a ss (n + 1) = grt l w a (grUp l w a ss n) ss[n] := by
  unfold grUp
  rw [← List.take_append_getElem h, List.foldl_append]
  rfl
theorem grUp_bd (l : List ByteArray) (w : Nat) (a : Int) (ss : List (Nat × Nat)) (hs : ∀ s ∈ ss, s.1 ≤ 8 ∧ s.2 ≤ 8) : ∀ n, (grUp l w a ss n).1 ≤ 8 ∧ (grUp l w a ss n).2 ≤ 8 := by
  intro n
  have : ∀ (ts : List (Nat × Nat)) (b : Nat × Nat), b.1 ≤ 8 ∧ b.2 ≤ 8 → (∀ s ∈ ts, s.1 ≤ 8 ∧ s.2 ≤ 8) → (ts.foldl (grt l w a) b).1 ≤ 8 ∧ (ts.foldl (grt l w a) b).2 ≤ 8 := by
    intro ts
    induction ts with
    | nil => intro b hb _; exact hb
    | cons s ts ih =>
      intro b hb hs
      rw [List.foldl_cons]
      refine ih _ ?_ (fun s' h' => hs s' (by simp [h']))
      unfold grt
      by_cases c : s.1 * s.2 > b.1 * b.2 ∧ pcnt l w a s > 0
      · rw [if_pos c]; exact hs s (by simp)
      · rw [if_neg c]; exact hb
  exact this _ _ ⟨by decide, by decide⟩ (fun s h => hs s (List.mem_of_mem_take h))
theorem cntP_pos (l : List ByteArray) (W H : Nat) (a : Int) : ∀ ps : List (Nat × Nat), (ps.map (mkP W H)).any (fun s => partSum l s.f0.toNat s.f2.f0.toNat s.f1.toNat s.f2.f1.toNat == a) = decide (cntP l W H a ps > 0)
  | [] => by simp [cntP]
  | p :: ps => by
    rw [List.map_cons, List.any_cons, cntP_pos l W H a ps]
    rw [show cntP l W H a (p :: ps) = (if partSum l p.1 W p.2 H = a then 1 else 0) + cntP l W H a ps from rfl]
    show (partSum l p.1 W p.2 H == a || _) = _
    by_cases c : partSum l p.1 W p.2 H = a
    · rw [if_pos c, beq_iff_eq.2 c, Bool.true_or, decide_eq_true (by omega)]
    · rw [if_neg c, beq_eq_false_iff_ne.2 c, Bool.false_or, Nat.zero_add]

theorem great_contains {l : List ByteArray} {wd : Nat} {a1 : Int} {A0 : Option Addr} {c0 Bn Bm : Nat} (HN : Nuts l wd) {sa sb : Nat} (h1 : sa ≤ wd) (h2 : sb ≤ l.length) (W : World) (v : Value) (base : Nat) (hr : Kd.R k50 50 W base (fun _ => True) v ((allFrom (wd + 1 - sa) 0 (l.length + 1 - sb)).map (mkP sa sb)))
    (hbn : W.heap[Bn]? = some (.cells #[.slice A0 l.length c0] 22 (0, 0))) (hbm : W.heap[Bm]? = some (.cells #[.int .i64 a1] 3 (0, 0))) (hrow : Kd.C Kd.string W A0 l.length l) (hc : l.length ≤ c0) :
    Calls Tryd.prog 43 #[v, .func (.func 44) #[] #[.pointer (some ⟨Bn, 0, none⟩), .pointer (some ⟨Bm, 0, none⟩)]] W fun e W' => e = .returned (.bool (decide (pcnt l wd a1 (sa, sb) > 0))) ∧ Below W.heap.size W W' := by
  have h8 := HN.rows8
  have w8 := HN.wide8
  have eg := enters_of Tryd.func44 (f := 44) (by kernel_rfl) rfl
  have fits := allFrom_fits (l := l) (w := wd) sa sb (l.length + 1 - sb) 0 (by omega)
  have hlen : ((allFrom (wd + 1 - sa) 0 (l.length + 1 - sb)).map (mkP sa sb)).length ≤ 1000000 := by
    rw [List.length_map, allFrom_len]
    exact Nat.le_trans (Nat.mul_le_mul (show l.length + 1 - sb ≤ 9 by omega) (show wd + 1 - sa ≤ 9 by omega)) (by decide)
  have := parts_ContainsFunc 44 #[.pointer (some ⟨Bn, 0, none⟩), .pointer (some ⟨Bm, 0, none⟩)] eg (fun s => partSum l s.f0.toNat s.f2.f0.toNat s.f1.toNat s.f2.f1.toNat == a1) v _ base W hr hlen (fun W' hW' s hs => by
    obtain ⟨⟨x, y⟩, hp, rfl⟩ := List.mem_map.1 hs
    have hf := fits (x, y) hp
    exact great_lit HN hf.1 hf.2 W' (blk_below hbn hW') (blk_below hbm hW') (Kd.C_below hrow hW') hc)
  rw [cntP_pos] at this
  exact this
set_option maxHeartbeats 16000000 in
set_option maxRecDepth 100000 in
theorem impl_GreatestPart.calls (A0 : Option Addr) (c0 : Nat) (l0 : List ByteArray) (a1 : Int) (r1 : Int) (r2 : Int) (r3 : Bool) (w : World) (hr0 : Kd.C Kd.string w A0 l0.length l0) (hc0 : l0.length ≤ c0) (h : impl_GreatestPart.f l0 a1 = some (r1, r2, r3)) :
    Calls Tryd.prog 17 #[.slice A0 l0.length c0, .int .i64 a1] w fun e w' => e = .returned (.tuple #[.agg #[.int .i64 r1, .int .i64 r2], .bool r3]) ∧ Below w.heap.size w w' := by
  unfold impl_GreatestPart.f at h
  by_cases hs : l0.length ≤ 1048576 ∧ sizes l0 ≤ 1048576
  case neg => rw [if_neg hs] at h; cases h
  rw [if_pos hs] at h
  obtain ⟨bb, _, hgood, hnuts⟩ := good_both l0 hs.1 hs.2
  rw [hgood, Option.bind_some] at h
  have HA := Aside0.mk hgood
  have HR0 := Aside0.mk hr0
  have HC0 := Aside0.mk hc0
  clear hr0 hc0 hgood hs
  have HB := Aside0.mk (Below.refl w.heap.size w)
  have hu30 := Tryd.underlying30
  cases bb with
  | false =>
    simp only [Bool.false_eq_true, if_false, Option.some.injEq, Prod.mk.injEq] at h
    obtain ⟨rfl, rfl, rfl⟩ := h
    clear hnuts
    go_enter Tryd.func17, Tryd.ntmps17
    go_wp2_with (first | ((with_reducible refine gate_dst (N := 2) rfl ?_); refine box_event ?hg (N := 2) ?hd (cs := #[.slice A0 l0.length c0]) (t := 22) ?hr ?_; (case hd => rfl); (case hg => rfl); (case hr => first | (go_simp; done) | (go_simp; rfl)); intro g2 hg w2 hbox hb; have GE2 := Aside0.mk (show w.heap.size ≤ g2 by rw [hg]; exact below_size (by repeat (first | (with_reducible first | exact HB.out | apply below_alloc | apply pw_below_drewN | apply below_drew1) | exact HB.out) : Below w.heap.size w _)); have BK2 := Aside0.mk hbox; have n0_ := Aside0.mk (below_step (by repeat (first | (with_reducible first | exact HB.out | apply below_alloc | apply pw_below_drewN | apply below_drew1) | exact HB.out) : Below w.heap.size w _) hb); clear HB; have HB := n0_; clear n0_; clear hb; clear hbox hg; have h2_0_w2 : w2.cell? ⟨g2, 0, none⟩ = some (.slice A0 l0.length c0) := (blk_cell BK2.out 0).trans rfl; have f2_0_w2 : w2.frozen? ⟨g2, 0, none⟩ = false := blk_frozen BK2.out 0) | ((with_reducible refine gate_dst (N := 3) rfl ?_); refine box_event ?hg (N := 3) ?hd (cs := #[.int .i64 a1]) (t := 3) ?hr ?_; (case hd => rfl); (case hg => rfl); (case hr => first | (go_simp; done) | (go_simp; rfl)); intro g3 hg w3 hbox hb; have GE3 := Aside0.mk (show w.heap.size ≤ g3 by rw [hg]; exact below_size (by repeat (first | (with_reducible first | exact HB.out | apply below_alloc | apply pw_below_drewN | apply below_drew1) | exact HB.out) : Below w.heap.size w _)); have NB2_3 := Aside0.mk (show g2 ≠ g3 by rw [hg]; exact Nat.ne_of_lt (blk_lt (g := g2) (o := .cells #[.slice A0 l0.length c0] 22 (0, 0)) (by (with_reducible repeat (first | refine blk_drewN ?_ _ | refine blk_drew ?_ | refine blk_alloc ?_ _)); exact BK2.out))); have BK3 := Aside0.mk hbox; have n0_ := Aside0.mk (below_step (by repeat (first | (with_reducible first | exact HB.out | apply below_alloc | apply pw_below_drewN | apply below_drew1) | exact HB.out) : Below w.heap.size w _) hb); have n1_ := Aside0.mk (blk_below (g := g2) (o := .cells #[.slice A0 l0.length c0] 22 (0, 0)) (by (with_reducible repeat (first | refine blk_drewN ?_ _ | refine blk_drew ?_ | refine blk_alloc ?_ _)); exact BK2.out) hb); clear HB BK2; have HB := n0_; have BK2 := n1_; clear n0_ n1_; clear hb; have h2_0_w3 : w3.cell? ⟨g2, 0, none⟩ = some (.slice A0 l0.length c0) := (blk_cell BK2.out 0).trans rfl; have f2_0_w3 : w3.frozen? ⟨g2, 0, none⟩ = false := blk_frozen BK2.out 0; clear hbox hg; have h3_0_w3 : w3.cell? ⟨g3, 0, none⟩ = some (.int .i64 a1) := (blk_cell BK3.out 0).trans rfl; have f3_0_w3 : w3.frozen? ⟨g3, 0, none⟩ = false := blk_frozen BK3.out 0; have hnb23 := NB2_3.out; have hnc23 := Ne.symm NB2_3.out) | ((with_reducible refine gate_dst (N := 4) rfl ?_); refine box_event ?hg (N := 4) ?hd (cs := #[.int .i64 0, .int .i64 0]) (t := 30) ?hr ?_; (case hd => rfl); (case hg => rfl); (case hr => first | (go_simp; done) | (go_simp; rfl)); intro g4 hg w4 hbox hb; have GE4 := Aside0.mk (show w.heap.size ≤ g4 by rw [hg]; exact below_size (by repeat (first | (with_reducible first | exact HB.out | apply below_alloc | apply pw_below_drewN | apply below_drew1) | exact HB.out) : Below w.heap.size w _)); have NB2_4 := Aside0.mk (show g2 ≠ g4 by rw [hg]; exact Nat.ne_of_lt (blk_lt (g := g2) (o := .cells #[.slice A0 l0.length c0] 22 (0, 0)) (by (with_reducible repeat (first | refine blk_drewN ?_ _ | refine blk_drew ?_ | refine blk_alloc ?_ _)); exact BK2.out))); have NB3_4 := Aside0.mk (show g3 ≠ g4 by rw [hg]; exact Nat.ne_of_lt (blk_lt (g := g3) (o := .cells #[.int .i64 a1] 3 (0, 0)) (by (with_reducible repeat (first | refine blk_drewN ?_ _ | refine blk_drew ?_ | refine blk_alloc ?_ _)); exact BK3.out))); have BK4 := Aside0.mk hbox; have n0_ := Aside0.mk (below_step (by repeat (first | (with_reducible first | exact HB.out | apply below_alloc | apply pw_below_drewN | apply below_drew1) | exact HB.out) : Below w.heap.size w _) hb); have n1_ := Aside0.mk (blk_below (g := g2) (o := .cells #[.slice A0 l0.length c0] 22 (0, 0)) (by (with_reducible repeat (first | refine blk_drewN ?_ _ | refine blk_drew ?_ | refine blk_alloc ?_ _)); exact BK2.out) hb); have n2_ := Aside0.mk (blk_below (g := g3) (o := .cells #[.int .i64 a1] 3 (0, 0)) (by (with_reducible repeat (first | refine blk_drewN ?_ _ | refine blk_drew ?_ | refine blk_alloc ?_ _)); exact BK3.out) hb); clear HB BK2 BK3; have HB := n0_; have BK2 := n1_; have BK3 := n2_; clear n0_ n1_ n2_; clear hb; have h2_0_w4 : w4.cell? ⟨g2, 0, none⟩ = some (.slice A0 l0.length c0) := (blk_cell BK2.out 0).trans rfl; have f2_0_w4 : w4.frozen? ⟨g2, 0, none⟩ = false := blk_frozen BK2.out 0; have h3_0_w4 : w4.cell? ⟨g3, 0, none⟩ = some (.int .i64 a1) := (blk_cell BK3.out 0).trans rfl; have f3_0_w4 : w4.frozen? ⟨g3, 0, none⟩ = false := blk_frozen BK3.out 0; clear hbox hg; have h4_0_w4 : w4.cell? ⟨g4, 0, none⟩ = some (.int .i64 0) := (blk_cell BK4.out 0).trans rfl; have f4_0_w4 : w4.frozen? ⟨g4, 0, none⟩ = false := blk_frozen BK4.out 0; have h4_1_w4 : w4.cell? ⟨g4, 1, none⟩ = some (.int .i64 0) := (blk_cell BK4.out 1).trans rfl; have f4_1_w4 : w4.frozen? ⟨g4, 1, none⟩ = false := blk_frozen BK4.out 1; have hnb24 := NB2_4.out; have hnc24 := Ne.symm NB2_4.out; have hnb34 := NB3_4.out; have hnc34 := Ne.symm NB3_4.out) | (go_at_call 37; refine (impl_AreNuts.calls _ _ l0 _ _ (Kd.C_below HR0.out (by repeat (first | (with_reducible first | exact HB.out | apply below_alloc | apply pw_below_drewN | apply below_drew1) | exact HB.out) : Below w.heap.size w _)) HC0.out HA.out).mono ?_; rintro e w6 ⟨rfl, hb⟩; have n0_ := Aside0.mk (below_step (by repeat (first | (with_reducible first | exact HB.out | apply below_alloc | apply pw_below_drewN | apply below_drew1) | exact HB.out) : Below w.heap.size w _) hb); have n1_ := Aside0.mk (blk_below (g := g2) (o := .cells #[.slice A0 l0.length c0] 22 (0, 0)) (by (with_reducible repeat (first | refine blk_drewN ?_ _ | refine blk_drew ?_ | refine blk_alloc ?_ _)); exact BK2.out) hb); have n2_ := Aside0.mk (blk_below (g := g3) (o := .cells #[.int .i64 a1] 3 (0, 0)) (by (with_reducible repeat (first | refine blk_drewN ?_ _ | refine blk_drew ?_ | refine blk_alloc ?_ _)); exact BK3.out) hb); have n3_ := Aside0.mk (blk_below (g := g4) (o := .cells #[.int .i64 0, .int .i64 0] 30 (0, 0)) (by (with_reducible repeat (first | refine blk_drewN ?_ _ | refine blk_drew ?_ | refine blk_alloc ?_ _)); exact BK4.out) hb); clear HB BK2 BK3 BK4; have HB := n0_; have BK2 := n1_; have BK3 := n2_; have BK4 := n3_; clear n0_ n1_ n2_ n3_; clear hb; have h2_0_w6 : w6.cell? ⟨g2, 0, none⟩ = some (.slice A0 l0.length c0) := (blk_cell BK2.out 0).trans rfl; have f2_0_w6 : w6.frozen? ⟨g2, 0, none⟩ = false := blk_frozen BK2.out 0; have h3_0_w6 : w6.cell? ⟨g3, 0, none⟩ = some (.int .i64 a1) := (blk_cell BK3.out 0).trans rfl; have f3_0_w6 : w6.frozen? ⟨g3, 0, none⟩ = false := blk_frozen BK3.out 0; have h4_0_w6 : w6.cell? ⟨g4, 0, none⟩ = some (.int .i64 0) := (blk_cell BK4.out 0).trans rfl; have f4_0_w6 : w6.frozen? ⟨g4, 0, none⟩ = false := blk_frozen BK4.out 0; have h4_1_w6 : w6.cell? ⟨g4, 1, none⟩ = some (.int .i64 0) := (blk_cell BK4.out 1).trans rfl; have f4_1_w6 : w6.frozen? ⟨g4, 1, none⟩ = false := blk_frozen BK4.out 1) | ((with_reducible refine gate_store (t := 30) (p := 4) rfl ?_); refine store_event (t := 30) (p := 4) (v := ?vo_w7) (w1 := ((w6.setCell ⟨g4, 0, none⟩ (.int .i64 0)).setCell ⟨g4, 1, none⟩ (.int .i64 0))) ?hg ?ho ?hn ?hr ?_; (case ho => rfl); (case hg => rfl); (case hn => rfl); (case hr => first | (go_simp; done) | (go_simp; rfl)); intro w7 hw; have n0_ := Aside0.mk (show Below w.heap.size w w7 by rw [hw]; exact (below_set (below_set HB.out GE4.out) GE4.out)); have n1_ := Aside0.mk (show w7.heap[g4]? = some (.cells #[.int .i64 0, .int .i64 0] 30 (0, 0)) by rw [hw]; exact (blk_put (cs' := #[.int .i64 0, .int .i64 0]) (blk_put (cs' := #[.int .i64 0, .int .i64 0]) BK4.out 0 _ rfl) 1 _ rfl)); have n2_ := Aside0.mk (show w7.heap[g2]? = some (.cells #[.slice A0 l0.length c0] 22 (0, 0)) by rw [hw]; exact (blk_far (blk_far BK2.out NB2_4.out _) NB2_4.out _)); have n3_ := Aside0.mk (show w7.heap[g3]? = some (.cells #[.int .i64 a1] 3 (0, 0)) by rw [hw]; exact (blk_far (blk_far BK3.out NB3_4.out _) NB3_4.out _)); clear HB BK4 BK2 BK3; have HB := n0_; have BK4 := n1_; have BK2 := n2_; have BK3 := n3_; clear n0_ n1_ n2_ n3_; clear hw; have h4_0_w7 : w7.cell? ⟨g4, 0, none⟩ = some (.int .i64 0) := (blk_cell BK4.out 0).trans rfl; have f4_0_w7 : w7.frozen? ⟨g4, 0, none⟩ = false := blk_frozen BK4.out 0; have h4_1_w7 : w7.cell? ⟨g4, 1, none⟩ = some (.int .i64 0) := (blk_cell BK4.out 1).trans rfl; have f4_1_w7 : w7.frozen? ⟨g4, 1, none⟩ = false := blk_frozen BK4.out 1; have h2_0_w7 : w7.cell? ⟨g2, 0, none⟩ = some (.slice A0 l0.length c0) := (blk_cell BK2.out 0).trans rfl; have f2_0_w7 : w7.frozen? ⟨g2, 0, none⟩ = false := blk_frozen BK2.out 0; have h3_0_w7 : w7.cell? ⟨g3, 0, none⟩ = some (.int .i64 a1) := (blk_cell BK3.out 0).trans rfl; have f3_0_w7 : w7.frozen? ⟨g3, 0, none⟩ = false := blk_frozen BK3.out 0))
    refine bodyPost_ret (results_ct rfl _ _ g4 30 #[.int .i64 0, .int .i64 0] (0, 0) _ rfl BK4.out Tryd.underlying30 rfl (by kernel_rfl)) rfl ?_
    exact ⟨rfl, HB.out⟩
  | true =>
    rw [if_pos rfl] at h
    by_cases hneg : a1 < 0
    · rw [if_pos hneg] at h
      simp only [Option.some.injEq, Prod.mk.injEq] at h
      obtain ⟨rfl, rfl, rfl⟩ := h
      have e1 : decide (a1 < 0) = true := decide_eq_true hneg
      clear hnuts hneg
      go_enter Tryd.func17, Tryd.ntmps17
      go_wp2_with (first | ((with_reducible refine gate_dst (N := 2) rfl ?_); refine box_event ?hg (N := 2) ?hd (cs := #[.slice A0 l0.length c0]) (t := 22) ?hr ?_; (case hd => rfl); (case hg => rfl); (case hr => first | (go_simp; done) | (go_simp; rfl)); intro g2 hg w2 hbox hb; have GE2 := Aside0.mk (show w.heap.size ≤ g2 by rw [hg]; exact below_size (by repeat (first | (with_reducible first | exact HB.out | apply below_alloc | apply pw_below_drewN | apply below_drew1) | exact HB.out) : Below w.heap.size w _)); have BK2 := Aside0.mk hbox; have n0_ := Aside0.mk (below_step (by repeat (first | (with_reducible first | exact HB.out | apply below_alloc | apply pw_below_drewN | apply below_drew1) | exact HB.out) : Below w.heap.size w _) hb); clear HB; have HB := n0_; clear n0_; clear hb; clear hbox hg; have h2_0_w2 : w2.cell? ⟨g2, 0, none⟩ = some (.slice A0 l0.length c0) := (blk_cell BK2.out 0).trans rfl; have f2_0_w2 : w2.frozen? ⟨g2, 0, none⟩ = false := blk_frozen BK2.out 0) | ((with_reducible refine gate_dst (N := 3) rfl ?_); refine box_event ?hg (N := 3) ?hd (cs := #[.int .i64 a1]) (t := 3) ?hr ?_; (case hd => rfl); (case hg => rfl); (case hr => first | (go_simp; done) | (go_simp; rfl)); intro g3 hg w3 hbox hb; have GE3 := Aside0.mk (show w.heap.size ≤ g3 by rw [hg]; exact below_size (by repeat (first | (with_reducible first | exact HB.out | apply below_alloc | apply pw_below_drewN | apply below_drew1) | exact HB.out) : Below w.heap.size w _)); have NB2_3 := Aside0.mk (show g2 ≠ g3 by rw [hg]; exact Nat.ne_of_lt (blk_lt (g := g2) (o := .cells #[.slice A0 l0.length c0] 22 (0, 0)) (by (with_reducible repeat (first | refine blk_drewN ?_ _ | refine blk_drew ?_ | refine blk_alloc ?_ _)); exact BK2.out))); have BK3 := Aside0.mk hbox; have n0_ := Aside0.mk (below_step (by repeat (first | (with_reducible first | exact HB.out | apply below_alloc | apply pw_below_drewN | apply below_drew1) | exact HB.out) : Below w.heap.size w _) hb); have n1_ := Aside0.mk (blk_below (g := g2) (o := .cells #[.slice A0 l0.length c0] 22 (0, 0)) (by (with_reducible repeat (first | refine blk_drewN ?_ _ | refine blk_drew ?_ | refine blk_alloc ?_ _)); exact BK2.out) hb); clear HB BK2; have HB := n0_; have BK2 := n1_; clear n0_ n1_; clear hb; have h2_0_w3 : w3.cell? ⟨g2, 0, none⟩ = some (.slice A0 l0.length c0) := (blk_cell BK2.out 0).trans rfl; have f2_0_w3 : w3.frozen? ⟨g2, 0, none⟩ = false := blk_frozen BK2.out 0; clear hbox hg; have h3_0_w3 : w3.cell? ⟨g3, 0, none⟩ = some (.int .i64 a1) := (blk_cell BK3.out 0).trans rfl; have f3_0_w3 : w3.frozen? ⟨g3, 0, none⟩ = false := blk_frozen BK3.out 0; have hnb23 := NB2_3.out; have hnc23 := Ne.symm NB2_3.out) | ((with_reducible refine gate_dst (N := 4) rfl ?_); refine box_event ?hg (N := 4) ?hd (cs := #[.int .i64 0, .int .i64 0]) (t := 30) ?hr ?_; (case hd => rfl); (case hg => rfl); (case hr => first | (go_simp; done) | (go_simp; rfl)); intro g4 hg w4 hbox hb; have GE4 := Aside0.mk (show w.heap.size ≤ g4 by rw [hg]; exact below_size (by repeat (first | (with_reducible first | exact HB.out | apply below_alloc | apply pw_below_drewN | apply below_drew1) | exact HB.out) : Below w.heap.size w _)); have NB2_4 := Aside0.mk (show g2 ≠ g4 by rw [hg]; exact Nat.ne_of_lt (blk_lt (g := g2) (o := .cells #[.slice A0 l0.length c0] 22 (0, 0)) (by (with_reducible repeat (first | refine blk_drewN ?_ _ | refine blk_drew ?_ | refine blk_alloc ?_ _)); exact BK2.out))); have NB3_4 := Aside0.mk (show g3 ≠ g4 by rw [hg]; exact Nat.ne_of_lt (blk_lt (g := g3) (o := .cells #[.int .i64 a1] 3 (0, 0)) (by (with_reducible repeat (first | refine blk_drewN ?_ _ | refine blk_drew ?_ | refine blk_alloc ?_ _)); exact BK3.out))); have BK4 := Aside0.mk hbox; have n0_ := Aside0.mk (below_step (by repeat (first | (with_reducible first | exact HB.out | apply below_alloc | apply pw_below_drewN | apply below_drew1) | exact HB.out) : Below w.heap.size w _) hb); have n1_ := Aside0.mk (blk_below (g := g2) (o := .cells #[.slice A0 l0.length c0] 22 (0, 0)) (by (with_reducible repeat (first | refine blk_drewN ?_ _ | refine blk_drew ?_ | refine blk_alloc ?_ _)); exact BK2.out) hb); have n2_ := Aside0.mk (blk_below (g := g3) (o := .cells #[.int .i64 a1] 3 (0, 0)) (by (with_reducible repeat (first | refine blk_drewN ?_ _ | refine blk_drew ?_ | refine blk_alloc ?_ _)); exact BK3.out) hb); clear HB BK2 BK3; have HB := n0_; have BK2 := n1_; have BK3 := n2_; clear n0_ n1_ n2_; clear hb; have h2_0_w4 : w4.cell? ⟨g2, 0, none⟩ = some (.slice A0 l0.length c0) := (blk_cell BK2.out 0).trans rfl; have f2_0_w4 : w4.frozen? ⟨g2, 0, none⟩ = false := blk_frozen BK2.out 0; have h3_0_w4 : w4.cell? ⟨g3, 0, none⟩ = some (.int .i64 a1) := (blk_cell BK3.out 0).trans rfl; have f3_0_w4 : w4.frozen? ⟨g3, 0, none⟩ = false := blk_frozen BK3.out 0; clear hbox hg; have h4_0_w4 : w4.cell? ⟨g4, 0, none⟩ = some (.int .i64 0) := (blk_cell BK4.out 0).trans rfl; have f4_0_w4 : w4.frozen? ⟨g4, 0, none⟩ = false := blk_frozen BK4.out 0; have h4_1_w4 : w4.cell? ⟨g4, 1, none⟩ = some (.int .i64 0) := (blk_cell BK4.out 1).trans rfl; have f4_1_w4 : w4.frozen? ⟨g4, 1, none⟩ = false := blk_frozen BK4.out 1; have hnb24 := NB2_4.out; have hnc24 := Ne.symm NB2_4.out; have hnb34 := NB3_4.out; have hnc34 := Ne.symm NB3_4.out) | (go_at_call 37; refine (impl_AreNuts.calls _ _ l0 _ _ (Kd.C_below HR0.out (by repeat (first | (with_reducible first | exact HB.out | apply below_alloc | apply pw_below_drewN | apply below_drew1) | exact HB.out) : Below w.heap.size w _)) HC0.out HA.out).mono ?_; rintro e w6 ⟨rfl, hb⟩; have n0_ := Aside0.mk (below_step (by repeat (first | (with_reducible first | exact HB.out | apply below_alloc | apply pw_below_drewN | apply below_drew1) | exact HB.out) : Below w.heap.size w _) hb); have n1_ := Aside0.mk (blk_below (g := g2) (o := .cells #[.slice A0 l0.length c0] 22 (0, 0)) (by (with_reducible repeat (first | refine blk_drewN ?_ _ | refine blk_drew ?_ | refine blk_alloc ?_ _)); exact BK2.out) hb); have n2_ := Aside0.mk (blk_below (g := g3) (o := .cells #[.int .i64 a1] 3 (0, 0)) (by (with_reducible repeat (first | refine blk_drewN ?_ _ | refine blk_drew ?_ | refine blk_alloc ?_ _)); exact BK3.out) hb); have n3_ := Aside0.mk (blk_below (g := g4) (o := .cells #[.int .i64 0, .int .i64 0] 30 (0, 0)) (by (with_reducible repeat (first | refine blk_drewN ?_ _ | refine blk_drew ?_ | refine blk_alloc ?_ _)); exact BK4.out) hb); clear HB BK2 BK3 BK4; have HB := n0_; have BK2 := n1_; have BK3 := n2_; have BK4 := n3_; clear n0_ n1_ n2_ n3_; clear hb; have h2_0_w6 : w6.cell? ⟨g2, 0, none⟩ = some (.slice A0 l0.length c0) := (blk_cell BK2.out 0).trans rfl; have f2_0_w6 : w6.frozen? ⟨g2, 0, none⟩ = false := blk_frozen BK2.out 0; have h3_0_w6 : w6.cell? ⟨g3, 0, none⟩ = some (.int .i64 a1) := (blk_cell BK3.out 0).trans rfl; have f3_0_w6 : w6.frozen? ⟨g3, 0, none⟩ = false := blk_frozen BK3.out 0; have h4_0_w6 : w6.cell? ⟨g4, 0, none⟩ = some (.int .i64 0) := (blk_cell BK4.out 0).trans rfl; have f4_0_w6 : w6.frozen? ⟨g4, 0, none⟩ = false := blk_frozen BK4.out 0; have h4_1_w6 : w6.cell? ⟨g4, 1, none⟩ = some (.int .i64 0) := (blk_cell BK4.out 1).trans rfl; have f4_1_w6 : w6.frozen? ⟨g4, 1, none⟩ = false := blk_frozen BK4.out 1) | ((with_reducible refine gate_store (t := 30) (p := 4) rfl ?_); refine store_event (t := 30) (p := 4) (v := ?vo_w7) (w1 := ((w6.setCell ⟨g4, 0, none⟩ (.int .i64 0)).setCell ⟨g4, 1, none⟩ (.int .i64 0))) ?hg ?ho ?hn ?hr ?_; (case ho => rfl); (case hg => rfl); (case hn => rfl); (case hr => first | (go_simp; done) | (go_simp; rfl)); intro w7 hw; have n0_ := Aside0.mk (show Below w.heap.size w w7 by rw [hw]; exact (below_set (below_set HB.out GE4.out) GE4.out)); have n1_ := Aside0.mk (show w7.heap[g4]? = some (.cells #[.int .i64 0, .int .i64 0] 30 (0, 0)) by rw [hw]; exact (blk_put (cs' := #[.int .i64 0, .int .i64 0]) (blk_put (cs' := #[.int .i64 0, .int .i64 0]) BK4.out 0 _ rfl) 1 _ rfl)); have n2_ := Aside0.mk (show w7.heap[g2]? = some (.cells #[.slice A0 l0.length c0] 22 (0, 0)) by rw [hw]; exact (blk_far (blk_far BK2.out NB2_4.out _) NB2_4.out _)); have n3_ := Aside0.mk (show w7.heap[g3]? = some (.cells #[.int .i64 a1] 3 (0, 0)) by rw [hw]; exact (blk_far (blk_far BK3.out NB3_4.out _) NB3_4.out _)); clear HB BK4 BK2 BK3; have HB := n0_; have BK4 := n1_; have BK2 := n2_; have BK3 := n3_; clear n0_ n1_ n2_ n3_; clear hw; have h4_0_w7 : w7.cell? ⟨g4, 0, none⟩ = some (.int .i64 0) := (blk_cell BK4.out 0).trans rfl; have f4_0_w7 : w7.frozen? ⟨g4, 0, none⟩ = false := blk_frozen BK4.out 0; have h4_1_w7 : w7.cell? ⟨g4, 1, none⟩ = some (.int .i64 0) := (blk_cell BK4.out 1).trans rfl; have f4_1_w7 : w7.frozen? ⟨g4, 1, none⟩ = false := blk_frozen BK4.out 1; have h2_0_w7 : w7.cell? ⟨g2, 0, none⟩ = some (.slice A0 l0.length c0) := (blk_cell BK2.out 0).trans rfl; have f2_0_w7 : w7.frozen? ⟨g2, 0, none⟩ = false := blk_frozen BK2.out 0; have h3_0_w7 : w7.cell? ⟨g3, 0, none⟩ = some (.int .i64 a1) := (blk_cell BK3.out 0).trans rfl; have f3_0_w7 : w7.frozen? ⟨g3, 0, none⟩ = false := blk_frozen BK3.out 0))
      refine bodyPost_ret (results_ct rfl _ _ g4 30 #[.int .i64 0, .int .i64 0] (0, 0) _ rfl BK4.out Tryd.underlying30 rfl (by kernel_rfl)) rfl ?_
      exact ⟨rfl, HB.out⟩
    · rw [if_neg hneg] at h
      have e1 : decide (a1 < 0) = false := decide_eq_false hneg
      obtain ⟨wd, HNU⟩ := hnuts rfl
      simp only [Option.some.injEq, Prod.mk.injEq] at h
      have hwid : (rdOf ByteArray.empty l0 0).size = wd := by
        have h1 := HNU.rows1
        have := (HNU.row 0 (by omega)).1
        simpa using this
      have hw8 := HNU.wide8
      have hl8 := HNU.rows8
      obtain ⟨ss, hss⟩ : ∃ ss, szAll l0.length 1 wd = ss := ⟨_, rfl⟩
      have hsm : ∀ s ∈ ss, 1 ≤ s.1 ∧ s.1 ≤ wd ∧ 1 ≤ s.2 ∧ s.2 ≤ l0.length := by
        intro s hs
        rw [← hss] at hs
        have := szAll_mem l0.length wd 1 s hs
        exact ⟨this.1, by omega, this.2.2.1, this.2.2.2⟩
      have hsl : ss.length ≤ 64 := by rw [← hss, szAll_len]; exact Nat.mul_le_mul hw8 hl8
      have hsz := sizes_l0 HNU wd 1 [] (by omega) (by simp; omega)
      rw [List.nil_append, hss] at hsz
      obtain ⟨ks, hks⟩ := hsz
      have HS := Aside0.mk (show impl_sizes.f ks l0 = some (ss.map mkS) from hks ks (Nat.le_refl _))
      have hgr : grBest l0 a1 = grUp l0 wd a1 ss ss.length := by unfold grBest grUp; rw [hwid, hss, List.take_length]
      rw [hgr] at h
      obtain ⟨h1, h2, h3⟩ := h
      have HF := Aside0.mk (And.intro h1 (And.intro h2 h3))
      have HSM := Aside0.mk hsm
      have HSL := Aside0.mk hsl
      have HBD := Aside0.mk (grUp_bd l0 wd a1 ss (fun s hs => by have := hsm s hs; omega))
      have HNUT := Aside0.mk HNU
      clear hnuts hneg hks hgr hss hsm hsl h1 h2 h3 hwid HNU
      go_enter Tryd.func17, Tryd.ntmps17
      go_wp2_with (first | ((with_reducible refine gate_dst (N := 2) rfl ?_); refine box_event ?hg (N := 2) ?hd (cs := #[.slice A0 l0.length c0]) (t := 22) ?hr ?_; (case hd => rfl); (case hg => rfl); (case hr => first | (go_simp; done) | (go_simp; rfl)); intro g2 hg w2 hbox hb; have GE2 := Aside0.mk (show w.heap.size ≤ g2 by rw [hg]; exact below_size (by repeat (first | (with_reducible first | exact HB.out | apply below_alloc | apply pw_below_drewN | apply below_drew1) | exact HB.out) : Below w.heap.size w _)); have BK2 := Aside0.mk hbox; have n0_ := Aside0.mk (below_step (by repeat (first | (with_reducible first | exact HB.out | apply below_alloc | apply pw_below_drewN | apply below_drew1) | exact HB.out) : Below w.heap.size w _) hb); clear HB; have HB := n0_; clear n0_; clear hb; clear hbox hg; have h2_0_w2 : w2.cell? ⟨g2, 0, none⟩ = some (.slice A0 l0.length c0) := (blk_cell BK2.out 0).trans rfl; have f2_0_w2 : w2.frozen? ⟨g2, 0, none⟩ = false := blk_frozen BK2.out 0) | ((with_reducible refine gate_dst (N := 3) rfl ?_); refine box_event ?hg (N := 3) ?hd (cs := #[.int .i64 a1]) (t := 3) ?hr ?_; (case hd => rfl); (case hg => rfl); (case hr => first | (go_simp; done) | (go_simp; rfl)); intro g3 hg w3 hbox hb; have GE3 := Aside0.mk (show w.heap.size ≤ g3 by rw [hg]; exact below_size (by repeat (first | (with_reducible first | exact HB.out | apply below_alloc | apply pw_below_drewN | apply below_drew1) | exact HB.out) : Below w.heap.size w _)); have NB2_3 := Aside0.mk (show g2 ≠ g3 by rw [hg]; exact Nat.ne_of_lt (blk_lt (g := g2) (o := .cells #[.slice A0 l0.length c0] 22 (0, 0)) (by (with_reducible repeat (first | refine blk_drewN ?_ _ | refine blk_drew ?_ | refine blk_alloc ?_ _)); exact BK2.out))); have BK3 := Aside0.mk hbox; have n0_ := Aside0.mk (below_step (by repeat (first | (with_reducible first | exact HB.out | apply below_alloc | apply pw_below_drewN | apply below_drew1) | exact HB.out) : Below w.heap.size w _) hb); have n1_ := Aside0.mk (blk_below (g := g2) (o := .cells #[.slice A0 l0.length c0] 22 (0, 0)) (by (with_reducible repeat (first | refine blk_drewN ?_ _ | refine blk_drew ?_ | refine blk_alloc ?_ _)); exact BK2.out) hb); clear HB BK2; have HB := n0_; have BK2 := n1_; clear n0_ n1_; clear hb; have h2_0_w3 : w3.cell? ⟨g2, 0, none⟩ = some (.slice A0 l0.length c0) := (blk_cell BK2.out 0).trans rfl; have f2_0_w3 : w3.frozen? ⟨g2, 0, none⟩ = false := blk_frozen BK2.out 0; clear hbox hg; have h3_0_w3 : w3.cell? ⟨g3, 0, none⟩ = some (.int .i64 a1) := (blk_cell BK3.out 0).trans rfl; have f3_0_w3 : w3.frozen? ⟨g3, 0, none⟩ = false := blk_frozen BK3.out 0; have hnb23 := NB2_3.out; have hnc23 := Ne.symm NB2_3.out) | ((with_reducible refine gate_dst (N := 4) rfl ?_); refine box_event ?hg (N := 4) ?hd (cs := #[.int .i64 0, .int .i64 0]) (t := 30) ?hr ?_; (case hd => rfl); (case hg => rfl); (case hr => first | (go_simp; done) | (go_simp; rfl)); intro g4 hg w4 hbox hb; have GE4 := Aside0.mk (show w.heap.size ≤ g4 by rw [hg]; exact below_size (by repeat (first | (with_reducible first | exact HB.out | apply below_alloc | apply pw_below_drewN | apply below_drew1) | exact HB.out) : Below w.heap.size w _)); have NB2_4 := Aside0.mk (show g2 ≠ g4 by rw [hg]; exact Nat.ne_of_lt (blk_lt (g := g2) (o := .cells #[.slice A0 l0.length c0] 22 (0, 0)) (by (with_reducible repeat (first | refine blk_drewN ?_ _ | refine blk_drew ?_ | refine blk_alloc ?_ _)); exact BK2.out))); have NB3_4 := Aside0.mk (show g3 ≠ g4 by rw [hg]; exact Nat.ne_of_lt (blk_lt (g := g3) (o := .cells #[.int .i64 a1] 3 (0, 0)) (by (with_reducible repeat (first | refine blk_drewN ?_ _ | refine blk_drew ?_ | refine blk_alloc ?_ _)); exact BK3.out))); have BK4 := Aside0.mk hbox; have n0_ := Aside0.mk (below_step (by repeat (first | (with_reducible first | exact HB.out | apply below_alloc | apply pw_below_drewN | apply below_drew1) | exact HB.out) : Below w.heap.size w _) hb); have n1_ := Aside0.mk (blk_below (g := g2) (o := .cells #[.slice A0 l0.length c0] 22 (0, 0)) (by (with_reducible repeat (first | refine blk_drewN ?_ _ | refine blk_drew ?_ | refine blk_alloc ?_ _)); exact BK2.out) hb); have n2_ := Aside0.mk (blk_below (g := g3) (o := .cells #[.int .i64 a1] 3 (0, 0)) (by (with_reducible repeat (first | refine blk_drewN ?_ _ | refine blk_drew ?_ | refine blk_alloc ?_ _)); exact BK3.out) hb); clear HB BK2 BK3; have HB := n0_; have BK2 := n1_; have BK3 := n2_; clear n0_ n1_ n2_; clear hb; have h2_0_w4 : w4.cell? ⟨g2, 0, none⟩ = some (.slice A0 l0.length c0) := (blk_cell BK2.out 0).trans rfl; have f2_0_w4 : w4.frozen? ⟨g2, 0, none⟩ = false := blk_frozen BK2.out 0; have h3_0_w4 : w4.cell? ⟨g3, 0, none⟩ = some (.int .i64 a1) := (blk_cell BK3.out 0).trans rfl; have f3_0_w4 : w4.frozen? ⟨g3, 0, none⟩ = false := blk_frozen BK3.out 0; clear hbox hg; have h4_0_w4 : w4.cell? ⟨g4, 0, none⟩ = some (.int .i64 0) := (blk_cell BK4.out 0).trans rfl; have f4_0_w4 : w4.frozen? ⟨g4, 0, none⟩ = false := blk_frozen BK4.out 0; have h4_1_w4 : w4.cell? ⟨g4, 1, none⟩ = some (.int .i64 0) := (blk_cell BK4.out 1).trans rfl; have f4_1_w4 : w4.frozen? ⟨g4, 1, none⟩ = false := blk_frozen BK4.out 1; have hnb24 := NB2_4.out; have hnc24 := Ne.symm NB2_4.out; have hnb34 := NB3_4.out; have hnc34 := Ne.symm NB3_4.out) | (go_at_call 37; refine (impl_AreNuts.calls _ _ l0 _ _ (Kd.C_below HR0.out (by repeat (first | (with_reducible first | exact HB.out | apply below_alloc | apply pw_below_drewN | apply below_drew1) | exact HB.out) : Below w.heap.size w _)) HC0.out HA.out).mono ?_; rintro e w6 ⟨rfl, hb⟩; have n0_ := Aside0.mk (below_step (by repeat (first | (with_reducible first | exact HB.out | apply below_alloc | apply pw_below_drewN | apply below_drew1) | exact HB.out) : Below w.heap.size w _) hb); have n1_ := Aside0.mk (blk_below (g := g2) (o := .cells #[.slice A0 l0.length c0] 22 (0, 0)) (by (with_reducible repeat (first | refine blk_drewN ?_ _ | refine blk_drew ?_ | refine blk_alloc ?_ _)); exact BK2.out) hb); have n2_ := Aside0.mk (blk_below (g := g3) (o := .cells #[.int .i64 a1] 3 (0, 0)) (by (with_reducible repeat (first | refine blk_drewN ?_ _ | refine blk_drew ?_ | refine blk_alloc ?_ _)); exact BK3.out) hb); have n3_ := Aside0.mk (blk_below (g := g4) (o := .cells #[.int .i64 0, .int .i64 0] 30 (0, 0)) (by (with_reducible repeat (first | refine blk_drewN ?_ _ | refine blk_drew ?_ | refine blk_alloc ?_ _)); exact BK4.out) hb); clear HB BK2 BK3 BK4; have HB := n0_; have BK2 := n1_; have BK3 := n2_; have BK4 := n3_; clear n0_ n1_ n2_ n3_; clear hb; have h2_0_w6 : w6.cell? ⟨g2, 0, none⟩ = some (.slice A0 l0.length c0) := (blk_cell BK2.out 0).trans rfl; have f2_0_w6 : w6.frozen? ⟨g2, 0, none⟩ = false := blk_frozen BK2.out 0; have h3_0_w6 : w6.cell? ⟨g3, 0, none⟩ = some (.int .i64 a1) := (blk_cell BK3.out 0).trans rfl; have f3_0_w6 : w6.frozen? ⟨g3, 0, none⟩ = false := blk_frozen BK3.out 0; have h4_0_w6 : w6.cell? ⟨g4, 0, none⟩ = some (.int .i64 0) := (blk_cell BK4.out 0).trans rfl; have f4_0_w6 : w6.frozen? ⟨g4, 0, none⟩ = false := blk_frozen BK4.out 0; have h4_1_w6 : w6.cell? ⟨g4, 1, none⟩ = some (.int .i64 0) := (blk_cell BK4.out 1).trans rfl; have f4_1_w6 : w6.frozen? ⟨g4, 1, none⟩ = false := blk_frozen BK4.out 1) | ((with_reducible refine gate_dst (N := 6) rfl ?_); refine box_event ?hg (N := 6) ?hd (cs := #[.int .i64 0, .int .i64 0]) (t := 30) ?hr ?_; (case hd => rfl); (case hg => rfl); (case hr => first | (go_simp; done) | (go_simp; rfl)); intro g6 hg w8 hbox hb; have GE6 := Aside0.mk (show w.heap.size ≤ g6 by rw [hg]; exact below_size (by repeat (first | (with_reducible first | exact HB.out | apply below_alloc | apply pw_below_drewN | apply below_drew1) | exact HB.out) : Below w.heap.size w _)); have NB2_6 := Aside0.mk (show g2 ≠ g6 by rw [hg]; exact Nat.ne_of_lt (blk_lt (g := g2) (o := .cells #[.slice A0 l0.length c0] 22 (0, 0)) (by (with_reducible repeat (first | refine blk_drewN ?_ _ | refine blk_drew ?_ | refine blk_alloc ?_ _)); exact BK2.out))); have NB3_6 := Aside0.mk (show g3 ≠ g6 by rw [hg]; exact Nat.ne_of_lt (blk_lt (g := g3) (o := .cells #[.int .i64 a1] 3 (0, 0)) (by (with_reducible repeat (first | refine blk_drewN ?_ _ | refine blk_drew ?_ | refine blk_alloc ?_ _)); exact BK3.out))); have NB4_6 := Aside0.mk (show g4 ≠ g6 by rw [hg]; exact Nat.ne_of_lt (blk_lt (g := g4) (o := .cells #[.int .i64 0, .int .i64 0] 30 (0, 0)) (by (with_reducible repeat (first | refine blk_drewN ?_ _ | refine blk_drew ?_ | refine blk_alloc ?_ _)); exact BK4.out))); have BK6 := Aside0.mk hbox; have n0_ := Aside0.mk (below_step (by repeat (first | (with_reducible first | exact HB.out | apply below_alloc | apply pw_below_drewN | apply below_drew1) | exact HB.out) : Below w.heap.size w _) hb); have n1_ := Aside0.mk (blk_below (g := g2) (o := .cells #[.slice A0 l0.length c0] 22 (0, 0)) (by (with_reducible repeat (first | refine blk_drewN ?_ _ | refine blk_drew ?_ | refine blk_alloc ?_ _)); exact BK2.out) hb); have n2_ := Aside0.mk (blk_below (g := g3) (o := .cells #[.int .i64 a1] 3 (0, 0)) (by (with_reducible repeat (first | refine blk_drewN ?_ _ | refine blk_drew ?_ | refine blk_alloc ?_ _)); exact BK3.out) hb); have n3_ := Aside0.mk (blk_below (g := g4) (o := .cells #[.int .i64 0, .int .i64 0] 30 (0, 0)) (by (with_reducible repeat (first | refine blk_drewN ?_ _ | refine blk_drew ?_ | refine blk_alloc ?_ _)); exact BK4.out) hb); clear HB BK2 BK3 BK4; have HB := n0_; have BK2 := n1_; have BK3 := n2_; have BK4 := n3_; clear n0_ n1_ n2_ n3_; clear hb; have h2_0_w8 : w8.cell? ⟨g2, 0, none⟩ = some (.slice A0 l0.length c0) := (blk_cell BK2.out 0).trans rfl; have f2_0_w8 : w8.frozen? ⟨g2, 0, none⟩ = false := blk_frozen BK2.out 0; have h3_0_w8 : w8.cell? ⟨g3, 0, none⟩ = some (.int .i64 a1) := (blk_cell BK3.out 0).trans rfl; have f3_0_w8 : w8.frozen? ⟨g3, 0, none⟩ = false := blk_frozen BK3.out 0; have h4_0_w8 : w8.cell? ⟨g4, 0, none⟩ = some (.int .i64 0) := (blk_cell BK4.out 0).trans rfl; have f4_0_w8 : w8.frozen? ⟨g4, 0, none⟩ = false := blk_frozen BK4.out 0; have h4_1_w8 : w8.cell? ⟨g4, 1, none⟩ = some (.int .i64 0) := (blk_cell BK4.out 1).trans rfl; have f4_1_w8 : w8.frozen? ⟨g4, 1, none⟩ = false := blk_frozen BK4.out 1; clear hbox hg; have h6_0_w8 : w8.cell? ⟨g6, 0, none⟩ = some (.int .i64 0) := (blk_cell BK6.out 0).trans rfl; have f6_0_w8 : w8.frozen? ⟨g6, 0, none⟩ = false := blk_frozen BK6.out 0; have h6_1_w8 : w8.cell? ⟨g6, 1, none⟩ = some (.int .i64 0) := (blk_cell BK6.out 1).trans rfl; have f6_1_w8 : w8.frozen? ⟨g6, 1, none⟩ = false := blk_frozen BK6.out 1; have hnb26 := NB2_6.out; have hnc26 := Ne.symm NB2_6.out; have hnb36 := NB3_6.out; have hnc36 := Ne.symm NB3_6.out; have hnb46 := NB4_6.out; have hnc46 := Ne.symm NB4_6.out) | ((with_reducible refine gate_store (t := 30) (p := 6) rfl ?_); refine store_event (t := 30) (p := 6) (v := ?vo_w9) (w1 := ((w8.setCell ⟨g6, 0, none⟩ (.int .i64 0)).setCell ⟨g6, 1, none⟩ (.int .i64 0))) ?hg ?ho ?hn ?hr ?_; (case ho => rfl); (case hg => rfl); (case hn => rfl); (case hr => first | (go_simp; done) | (go_simp; rfl)); intro w9 hw; have n0_ := Aside0.mk (show Below w.heap.size w w9 by rw [hw]; exact (below_set (below_set HB.out GE6.out) GE6.out)); have n1_ := Aside0.mk (show w9.heap[g6]? = some (.cells #[.int .i64 0, .int .i64 0] 30 (0, 0)) by rw [hw]; exact (blk_put (cs' := #[.int .i64 0, .int .i64 0]) (blk_put (cs' := #[.int .i64 0, .int .i64 0]) BK6.out 0 _ rfl) 1 _ rfl)); have n2_ := Aside0.mk (show w9.heap[g2]? = some (.cells #[.slice A0 l0.length c0] 22 (0, 0)) by rw [hw]; exact (blk_far (blk_far BK2.out NB2_6.out _) NB2_6.out _)); have n3_ := Aside0.mk (show w9.heap[g3]? = some (.cells #[.int .i64 a1] 3 (0, 0)) by rw [hw]; exact (blk_far (blk_far BK3.out NB3_6.out _) NB3_6.out _)); have n4_ := Aside0.mk (show w9.heap[g4]? = some (.cells #[.int .i64 0, .int .i64 0] 30 (0, 0)) by rw [hw]; exact (blk_far (blk_far BK4.out NB4_6.out _) NB4_6.out _)); clear HB BK6 BK2 BK3 BK4; have HB := n0_; have BK6 := n1_; have BK2 := n2_; have BK3 := n3_; have BK4 := n4_; clear n0_ n1_ n2_ n3_ n4_; clear hw; have h6_0_w9 : w9.cell? ⟨g6, 0, none⟩ = some (.int .i64 0) := (blk_cell BK6.out 0).trans rfl; have f6_0_w9 : w9.frozen? ⟨g6, 0, none⟩ = false := blk_frozen BK6.out 0; have h6_1_w9 : w9.cell? ⟨g6, 1, none⟩ = some (.int .i64 0) := (blk_cell BK6.out 1).trans rfl; have f6_1_w9 : w9.frozen? ⟨g6, 1, none⟩ = false := blk_frozen BK6.out 1; have h2_0_w9 : w9.cell? ⟨g2, 0, none⟩ = some (.slice A0 l0.length c0) := (blk_cell BK2.out 0).trans rfl; have f2_0_w9 : w9.frozen? ⟨g2, 0, none⟩ = false := blk_frozen BK2.out 0; have h3_0_w9 : w9.cell? ⟨g3, 0, none⟩ = some (.int .i64 a1) := (blk_cell BK3.out 0).trans rfl; have f3_0_w9 : w9.frozen? ⟨g3, 0, none⟩ = false := blk_frozen BK3.out 0; have h4_0_w9 : w9.cell? ⟨g4, 0, none⟩ = some (.int .i64 0) := (blk_cell BK4.out 0).trans rfl; have f4_0_w9 : w9.frozen? ⟨g4, 0, none⟩ = false := blk_frozen BK4.out 0; have h4_1_w9 : w9.cell? ⟨g4, 1, none⟩ = some (.int .i64 0) := (blk_cell BK4.out 1).trans rfl; have f4_1_w9 : w9.frozen? ⟨g4, 1, none⟩ = false := blk_frozen BK4.out 1) | (go_at_call 38; refine (impl_sizes.calls ks _ _ l0 _ _ (Kd.C_below HR0.out (by repeat (first | (with_reducible first | exact HB.out | apply below_alloc | apply pw_below_drewN | apply below_drew1) | exact HB.out) : Below w.heap.size w _)) HC0.out HS.out).mono ?_; rintro e w10 ⟨vr, rfl, hro, hb⟩; obtain ⟨Ar, cr, er⟩ := Kd.R_slice hro; rw [List.length_map] at er; subst er; have HO := Aside0.mk hro; have G6B := Aside0.mk (blk_lt BK6.out); have n0_ := Aside0.mk (below_step (by repeat (first | (with_reducible first | exact HB.out | apply below_alloc | apply pw_below_drewN | apply below_drew1) | exact HB.out) : Below w.heap.size w _) hb); have n1_ := Aside0.mk (blk_below (g := g2) (o := .cells #[.slice A0 l0.length c0] 22 (0, 0)) (by (with_reducible repeat (first | refine blk_drewN ?_ _ | refine blk_drew ?_ | refine blk_alloc ?_ _)); exact BK2.out) hb); have n2_ := Aside0.mk (blk_below (g := g3) (o := .cells #[.int .i64 a1] 3 (0, 0)) (by (with_reducible repeat (first | refine blk_drewN ?_ _ | refine blk_drew ?_ | refine blk_alloc ?_ _)); exact BK3.out) hb); have n3_ := Aside0.mk (blk_below (g := g4) (o := .cells #[.int .i64 0, .int .i64 0] 30 (0, 0)) (by (with_reducible repeat (first | refine blk_drewN ?_ _ | refine blk_drew ?_ | refine blk_alloc ?_ _)); exact BK4.out) hb); have n4_ := Aside0.mk (blk_below (g := g6) (o := .cells #[.int .i64 0, .int .i64 0] 30 (0, 0)) (by (with_reducible repeat (first | refine blk_drewN ?_ _ | refine blk_drew ?_ | refine blk_alloc ?_ _)); exact BK6.out) hb); clear HB BK2 BK3 BK4 BK6; have HB := n0_; have BK2 := n1_; have BK3 := n2_; have BK4 := n3_; have BK6 := n4_; clear n0_ n1_ n2_ n3_ n4_; clear hb; have h2_0_w10 : w10.cell? ⟨g2, 0, none⟩ = some (.slice A0 l0.length c0) := (blk_cell BK2.out 0).trans rfl; have f2_0_w10 : w10.frozen? ⟨g2, 0, none⟩ = false := blk_frozen BK2.out 0; have h3_0_w10 : w10.cell? ⟨g3, 0, none⟩ = some (.int .i64 a1) := (blk_cell BK3.out 0).trans rfl; have f3_0_w10 : w10.frozen? ⟨g3, 0, none⟩ = false := blk_frozen BK3.out 0; have h4_0_w10 : w10.cell? ⟨g4, 0, none⟩ = some (.int .i64 0) := (blk_cell BK4.out 0).trans rfl; have f4_0_w10 : w10.frozen? ⟨g4, 0, none⟩ = false := blk_frozen BK4.out 0; have h4_1_w10 : w10.cell? ⟨g4, 1, none⟩ = some (.int .i64 0) := (blk_cell BK4.out 1).trans rfl; have f4_1_w10 : w10.frozen? ⟨g4, 1, none⟩ = false := blk_frozen BK4.out 1; have h6_0_w10 : w10.cell? ⟨g6, 0, none⟩ = some (.int .i64 0) := (blk_cell BK6.out 0).trans rfl; have f6_0_w10 : w10.frozen? ⟨g6, 0, none⟩ = false := blk_frozen BK6.out 0; have h6_1_w10 : w10.cell? ⟨g6, 1, none⟩ = some (.int .i64 0) := (blk_cell BK6.out 1).trans rfl; have f6_1_w10 : w10.frozen? ⟨g6, 1, none⟩ = false := blk_frozen BK6.out 1; clear hro))
      go_loopg [21] (ss.length + 1) (fun kq v21 w' => ∃ n : Nat, v21 = .int .i64 (n : Int) ∧ Aside0 (n ≤ ss.length) ∧ Aside0 (ss.length - n ≤ kq) ∧ Aside0 (Below w.heap.size w w') ∧ Aside0 (w'.heap[g2]? = some (.cells #[.slice A0 l0.length c0] 22 (0, 0))) ∧ Aside0 (w'.heap[g3]? = some (.cells #[.int .i64 a1] 3 (0, 0))) ∧ Aside0 (w'.heap[g4]? = some (.cells #[.int .i64 0, .int .i64 0] 30 (0, 0))) ∧ Aside0 (w'.heap[g6]? = some (.cells #[.int .i64 ((grUp l0 wd a1 ss n).1 : Int), .int .i64 ((grUp l0 wd a1 ss n).2 : Int)] 30 (0, 0))) ∧ Aside0 (Kd.R k30 30 w' w9.heap.size (fun _ => True) (.slice Ar ss.length cr) (ss.map mkS)))
      case atStart => exact ⟨0, rfl, ⟨Nat.zero_le _⟩, ⟨by omega⟩, HB, BK2, BK3, BK4, BK6, HO⟩
      case round =>
        clear HB BK2 BK3 BK4 BK6 HO
        try clear e1
        try clear h2_0_w2 f2_0_w2
        try clear h2_0_w3 f2_0_w3
        try clear h2_0_w4 f2_0_w4
        try clear h2_0_w6 f2_0_w6
        try clear h2_0_w7 f2_0_w7
        try clear h2_0_w8 f2_0_w8
        try clear h2_0_w9 f2_0_w9
        try clear h2_0_w10 f2_0_w10
        try clear h2_1_w2 f2_1_w2
        try clear h2_1_w3 f2_1_w3
        try clear h2_1_w4 f2_1_w4
        try clear h2_1_w6 f2_1_w6
        try clear h2_1_w7 f2_1_w7
        try clear h2_1_w8 f2_1_w8
        try clear h2_1_w9 f2_1_w9
        try clear h2_1_w10 f2_1_w10
        try clear h3_0_w2 f3_0_w2
        try clear h3_0_w3 f3_0_w3
        try clear h3_0_w4 f3_0_w4
        try clear h3_0_w6 f3_0_w6
        try clear h3_0_w7 f3_0_w7
        try clear h3_0_w8 f3_0_w8
        try clear h3_0_w9 f3_0_w9
        try clear h3_0_w10 f3_0_w10
        try clear h3_1_w2 f3_1_w2
        try clear h3_1_w3 f3_1_w3
        try clear h3_1_w4 f3_1_w4
        try clear h3_1_w6 f3_1_w6
        try clear h3_1_w7 f3_1_w7
        try clear h3_1_w8 f3_1_w8
        try clear h3_1_w9 f3_1_w9
        try clear h3_1_w10 f3_1_w10
        try clear h4_0_w2 f4_0_w2
        try clear h4_0_w3 f4_0_w3
        try clear h4_0_w4 f4_0_w4
        try clear h4_0_w6 f4_0_w6
        try clear h4_0_w7 f4_0_w7
        try clear h4_0_w8 f4_0_w8
        try clear h4_0_w9 f4_0_w9
        try clear h4_0_w10 f4_0_w10
        try clear h4_1_w2 f4_1_w2
        try clear h4_1_w3 f4_1_w3
        try clear h4_1_w4 f4_1_w4
        try clear h4_1_w6 f4_1_w6
        try clear h4_1_w7 f4_1_w7
        try clear h4_1_w8 f4_1_w8
        try clear h4_1_w9 f4_1_w9
        try clear h4_1_w10 f4_1_w10
        try clear h6_0_w2 f6_0_w2
        try clear h6_0_w3 f6_0_w3
        try clear h6_0_w4 f6_0_w4
        try clear h6_0_w6 f6_0_w6
        try clear h6_0_w7 f6_0_w7
        try clear h6_0_w8 f6_0_w8
        try clear h6_0_w9 f6_0_w9
        try clear h6_0_w10 f6_0_w10
        try clear h6_1_w2 f6_1_w2
        try clear h6_1_w3 f6_1_w3
        try clear h6_1_w4 f6_1_w4
        try clear h6_1_w6 f6_1_w6
        try clear h6_1_w7 f6_1_w7
        try clear h6_1_w8 f6_1_w8
        try clear h6_1_w9 f6_1_w9
        try clear h6_1_w10 f6_1_w10
        obtain ⟨n, rfl, hn, hq, HB, BK2, BK3, BK4, BK6, HO⟩ := hrel
        have hbd := HBD.out n
        have hsuc := grUp_succ l0 wd a1 ss n
        obtain ⟨⟨ba, bb⟩, hbb⟩ : ∃ q, grUp l0 wd a1 ss n = q := ⟨_, rfl⟩
        rw [hbb] at hbd BK6 hsuc
        have HBB := Aside0.mk hbb
        have BK6q := Aside0.mk (show wr.heap[g6]? = some (.cells #[.int .i64 (ba : Int), .int .i64 (bb : Int)] 30 (0, 0)) from BK6.out)
        clear BK6 hbb
        have BK6 := BK6q
        clear BK6q
        have HSQ6 := Aside0.mk (squares_nat (a := ba) (b := bb) (by have := hbd.1; simp only at this; omega) (by have := hbd.2; simp only at this; omega))
        by_cases hlt : n < ss.length
        · have d0 : decide ((n : Int) < (ss.length : Int)) = true := decide_eq_true (by omega)
          have d00 : decide (n < ss.length) = true := decide_eq_true hlt
          have p0 : (0 : Int) ≤ (n : Int) := by omega
          have q0 : (n : Int) < (ss.length : Int) := by omega
          have q00 : n < ss.length := hlt
          obtain ⟨ad, ead, hx0, hx1⟩ := at_T30 (Kd.R_reads' HO.out).2.2 (n : Int) (by omega) (by rw [List.length_map]; omega)
          subst ead
          rw [rd30 _ n hlt] at hx0 hx1
          rw [Int.toNat_natCast] at hx0 hx1
          have hsn := hsuc hlt
          have hmem := HSM.out ss[n] (List.getElem_mem hlt)
          obtain ⟨⟨sa, sb⟩, hsv⟩ : ∃ c, ss[n] = c := ⟨_, rfl⟩
          rw [hsv] at hx0 hx1 hsn hmem
          replace hx0 : wr.cell? (ad.add (n * 2)) = some (.int .i64 (sa : Int)) := hx0
          replace hx1 : wr.cell? ⟨(ad.add (n * 2)).block, (ad.add (n * 2)).off + 1, none⟩ = some (.int .i64 (sb : Int)) := hx1
          have HSQ8 := Aside0.mk (squares_nat (a := sa) (b := sb) (by have := hmem.2.1; simp only at this; omega) (by have := hmem.2.2.2; simp only at this; omega))
          have HME := Aside0.mk (show sa ≤ wd ∧ sb ≤ l0.length from ⟨hmem.2.1, hmem.2.2.2⟩)
          have hev := parts_l0 HNUT.out sa sb (by have := HME.out; omega) (by have := HME.out; omega) (l0.length + 1 - sb) 0 [] (by omega) (by simp; omega)
          rw [List.nil_append] at hev
          obtain ⟨kp, hkp⟩ := hev
          have HPA := Aside0.mk (show impl_parts.f kp l0 (sa : Int) (sb : Int) = some ((allFrom (wd + 1 - sa) 0 (l0.length + 1 - sb)).map (mkP sa sb)) from hkp kp (Nat.le_refl _))
          have HSN := Aside0.mk hsn
          have HLT := Aside0.mk hlt
          have HQQ := Aside0.mk (show ss.length - (n + 1) ≤ gk - 1 ∧ 0 < gk by have := hq.out; omega)
          have HQ := Aside0.mk (World.grownBy.refl wr (some g6))
          have HOr := HO
          have e9 : (n : Int) + 1 ≤ 1000 := by have := HSL.out; omega
          clear hkp hsn hmem hsv hn hq hsuc hbd hlt HO
          by_cases hgt : sa * sb > ba * bb
          · have e5 : decide (((ba * bb : Nat) : Int) < ((sa * sb : Nat) : Int)) = true := decide_eq_true (by omega)
            have TOKA : True := trivial
            by_cases hany : pcnt l0 wd a1 (sa, sb) > 0
            · have e6 : decide (pcnt l0 wd a1 (sa, sb) > 0) = true := decide_eq_true hany
              have hnew : grUp l0 wd a1 ss (n + 1) = (sa, sb) := by rw [HSN.out]; unfold grt; rw [if_pos ⟨hgt, hany⟩]
              have HNEW := Aside0.mk hnew
              clear hnew hgt hany
              generalize ((sa * sb : Nat) : Int) = v8 at e5 HSQ8
              generalize ((ba * bb : Nat) : Int) = v6 at e5 HSQ6
              go_wp2_with (first | ((with_reducible refine gate_dst (N := 8) rfl ?_); refine box_event ?hg (N := 8) ?hd (cs := #[.int .i64 0, .int .i64 0]) (t := 30) ?hr ?_; (case hd => rfl); (case hg => rfl); (case hr => first | (go_simp; done) | (go_simp; rfl)); intro g8 hg w11 hbox hb; have GE8 := Aside0.mk (show w.heap.size ≤ g8 by rw [hg]; exact below_size (by repeat (first | (with_reducible first | exact HB.out | apply below_alloc | apply pw_below_drewN | apply below_drew1) | exact HB.out) : Below w.heap.size w _)); have GR8 := Aside0.mk (show wr.heap.size ≤ g8 by rw [hg]; exact (by repeat (first | (with_reducible first | exact HQ.out | refine gr_alloc ?_ _ | refine gr_drewN ?_ _ | refine gr_drew ?_) | exact HQ.out) : wr.grownBy _ (some g6)).size); have NB2_8 := Aside0.mk (show g2 ≠ g8 by rw [hg]; exact Nat.ne_of_lt (blk_lt (g := g2) (o := .cells #[.slice A0 l0.length c0] 22 (0, 0)) (by (with_reducible repeat (first | refine blk_drewN ?_ _ | refine blk_drew ?_ | refine blk_alloc ?_ _)); exact BK2.out))); have NB3_8 := Aside0.mk (show g3 ≠ g8 by rw [hg]; exact Nat.ne_of_lt (blk_lt (g := g3) (o := .cells #[.int .i64 a1] 3 (0, 0)) (by (with_reducible repeat (first | refine blk_drewN ?_ _ | refine blk_drew ?_ | refine blk_alloc ?_ _)); exact BK3.out))); have NB4_8 := Aside0.mk (show g4 ≠ g8 by rw [hg]; exact Nat.ne_of_lt (blk_lt (g := g4) (o := .cells #[.int .i64 0, .int .i64 0] 30 (0, 0)) (by (with_reducible repeat (first | refine blk_drewN ?_ _ | refine blk_drew ?_ | refine blk_alloc ?_ _)); exact BK4.out))); have NB6_8 := Aside0.mk (show g6 ≠ g8 by rw [hg]; exact Nat.ne_of_lt (blk_lt (g := g6) (o := .cells #[.int .i64 (ba : Int), .int .i64 (bb : Int)] 30 (0, 0)) (by (with_reducible repeat (first | refine blk_drewN ?_ _ | refine blk_drew ?_ | refine blk_alloc ?_ _)); exact BK6.out))); have BK8 := Aside0.mk hbox; have n0_ := Aside0.mk (below_step (by repeat (first | (with_reducible first | exact HB.out | apply below_alloc | apply pw_below_drewN | apply below_drew1) | exact HB.out) : Below w.heap.size w _) hb); have n1_ := Aside0.mk (Go.Proofs.YtedpdfmaccoinaaDoor.Mem.grown_trans (by repeat (first | (with_reducible first | exact HQ.out | refine gr_alloc ?_ _ | refine gr_drewN ?_ _ | refine gr_drew ?_) | exact HQ.out) : wr.grownBy _ (some g6)) (Go.Proofs.YtedpdfmaccoinaaDoor.Mem.grown_below hb (some g6))); have n2_ := Aside0.mk (blk_below (g := g2) (o := .cells #[.slice A0 l0.length c0] 22 (0, 0)) (by (with_reducible repeat (first | refine blk_drewN ?_ _ | refine blk_drew ?_ | refine blk_alloc ?_ _)); exact BK2.out) hb); have n3_ := Aside0.mk (blk_below (g := g3) (o := .cells #[.int .i64 a1] 3 (0, 0)) (by (with_reducible repeat (first | refine blk_drewN ?_ _ | refine blk_drew ?_ | refine blk_alloc ?_ _)); exact BK3.out) hb); have n4_ := Aside0.mk (blk_below (g := g4) (o := .cells #[.int .i64 0, .int .i64 0] 30 (0, 0)) (by (with_reducible repeat (first | refine blk_drewN ?_ _ | refine blk_drew ?_ | refine blk_alloc ?_ _)); exact BK4.out) hb); have n5_ := Aside0.mk (blk_below (g := g6) (o := .cells #[.int .i64 (ba : Int), .int .i64 (bb : Int)] 30 (0, 0)) (by (with_reducible repeat (first | refine blk_drewN ?_ _ | refine blk_drew ?_ | refine blk_alloc ?_ _)); exact BK6.out) hb); clear HB HQ BK2 BK3 BK4 BK6; have HB := n0_; have HQ := n1_; have BK2 := n2_; have BK3 := n3_; have BK4 := n4_; have BK6 := n5_; clear n0_ n1_ n2_ n3_ n4_ n5_; clear hb; have h2_0_w11 : w11.cell? ⟨g2, 0, none⟩ = some (.slice A0 l0.length c0) := (blk_cell BK2.out 0).trans rfl; have f2_0_w11 : w11.frozen? ⟨g2, 0, none⟩ = false := blk_frozen BK2.out 0; have h3_0_w11 : w11.cell? ⟨g3, 0, none⟩ = some (.int .i64 a1) := (blk_cell BK3.out 0).trans rfl; have f3_0_w11 : w11.frozen? ⟨g3, 0, none⟩ = false := blk_frozen BK3.out 0; have h4_0_w11 : w11.cell? ⟨g4, 0, none⟩ = some (.int .i64 0) := (blk_cell BK4.out 0).trans rfl; have f4_0_w11 : w11.frozen? ⟨g4, 0, none⟩ = false := blk_frozen BK4.out 0; have h4_1_w11 : w11.cell? ⟨g4, 1, none⟩ = some (.int .i64 0) := (blk_cell BK4.out 1).trans rfl; have f4_1_w11 : w11.frozen? ⟨g4, 1, none⟩ = false := blk_frozen BK4.out 1; have h6_0_w11 : w11.cell? ⟨g6, 0, none⟩ = some (.int .i64 (ba : Int)) := (blk_cell BK6.out 0).trans rfl; have f6_0_w11 : w11.frozen? ⟨g6, 0, none⟩ = false := blk_frozen BK6.out 0; have h6_1_w11 : w11.cell? ⟨g6, 1, none⟩ = some (.int .i64 (bb : Int)) := (blk_cell BK6.out 1).trans rfl; have f6_1_w11 : w11.frozen? ⟨g6, 1, none⟩ = false := blk_frozen BK6.out 1; clear hbox hg; have h8_0_w11 : w11.cell? ⟨g8, 0, none⟩ = some (.int .i64 0) := (blk_cell BK8.out 0).trans rfl; have f8_0_w11 : w11.frozen? ⟨g8, 0, none⟩ = false := blk_frozen BK8.out 0; have h8_1_w11 : w11.cell? ⟨g8, 1, none⟩ = some (.int .i64 0) := (blk_cell BK8.out 1).trans rfl; have f8_1_w11 : w11.frozen? ⟨g8, 1, none⟩ = false := blk_frozen BK8.out 1; have hnb28 := NB2_8.out; have hnc28 := Ne.symm NB2_8.out; have hnb38 := NB3_8.out; have hnc38 := Ne.symm NB3_8.out; have hnb48 := NB4_8.out; have hnc48 := Ne.symm NB4_8.out; have hnb68 := NB6_8.out; have hnc68 := Ne.symm NB6_8.out) | ((with_reducible refine gate_store (t := 30) (p := 8) rfl ?_); refine store_event (t := 30) (p := 8) (v := ?vo_w12) (w1 := ((w11.setCell ⟨g8, 0, none⟩ (.int .i64 (sa : Int))).setCell ⟨g8, 1, none⟩ (.int .i64 (sb : Int)))) ?hg ?ho ?hn ?hr ?_; (case ho => rfl); (case hg => rfl); (case hn => rfl); (case hr => first | (go_simp; done) | (go_simp; rfl)); intro w12 hw; have n0_ := Aside0.mk (show Below w.heap.size w w12 by rw [hw]; exact (below_set (below_set HB.out GE8.out) GE8.out)); have n1_ := Aside0.mk (show wr.grownBy w12 (some g6) by rw [hw]; exact (Go.Proofs.YtedpdfmaccoinaaDoor.Mem.grown_set (Go.Proofs.YtedpdfmaccoinaaDoor.Mem.grown_set HQ.out GR8.out _ _) GR8.out _ _)); have n2_ := Aside0.mk (show w12.heap[g8]? = some (.cells #[.int .i64 (sa : Int), .int .i64 (sb : Int)] 30 (0, 0)) by rw [hw]; exact (blk_put (cs' := #[.int .i64 (sa : Int), .int .i64 (sb : Int)]) (blk_put (cs' := #[.int .i64 (sa : Int), .int .i64 0]) BK8.out 0 _ rfl) 1 _ rfl)); have n3_ := Aside0.mk (show w12.heap[g2]? = some (.cells #[.slice A0 l0.length c0] 22 (0, 0)) by rw [hw]; exact (blk_far (blk_far BK2.out NB2_8.out _) NB2_8.out _)); have n4_ := Aside0.mk (show w12.heap[g3]? = some (.cells #[.int .i64 a1] 3 (0, 0)) by rw [hw]; exact (blk_far (blk_far BK3.out NB3_8.out _) NB3_8.out _)); have n5_ := Aside0.mk (show w12.heap[g4]? = some (.cells #[.int .i64 0, .int .i64 0] 30 (0, 0)) by rw [hw]; exact (blk_far (blk_far BK4.out NB4_8.out _) NB4_8.out _)); have n6_ := Aside0.mk (show w12.heap[g6]? = some (.cells #[.int .i64 (ba : Int), .int .i64 (bb : Int)] 30 (0, 0)) by rw [hw]; exact (blk_far (blk_far BK6.out NB6_8.out _) NB6_8.out _)); clear HB HQ BK8 BK2 BK3 BK4 BK6; have HB := n0_; have HQ := n1_; have BK8 := n2_; have BK2 := n3_; have BK3 := n4_; have BK4 := n5_; have BK6 := n6_; clear n0_ n1_ n2_ n3_ n4_ n5_ n6_; clear hw; have h8_0_w12 : w12.cell? ⟨g8, 0, none⟩ = some (.int .i64 (sa : Int)) := (blk_cell BK8.out 0).trans rfl; have f8_0_w12 : w12.frozen? ⟨g8, 0, none⟩ = false := blk_frozen BK8.out 0; have h8_1_w12 : w12.cell? ⟨g8, 1, none⟩ = some (.int .i64 (sb : Int)) := (blk_cell BK8.out 1).trans rfl; have f8_1_w12 : w12.frozen? ⟨g8, 1, none⟩ = false := blk_frozen BK8.out 1; have h2_0_w12 : w12.cell? ⟨g2, 0, none⟩ = some (.slice A0 l0.length c0) := (blk_cell BK2.out 0).trans rfl; have f2_0_w12 : w12.frozen? ⟨g2, 0, none⟩ = false := blk_frozen BK2.out 0; have h3_0_w12 : w12.cell? ⟨g3, 0, none⟩ = some (.int .i64 a1) := (blk_cell BK3.out 0).trans rfl; have f3_0_w12 : w12.frozen? ⟨g3, 0, none⟩ = false := blk_frozen BK3.out 0; have h4_0_w12 : w12.cell? ⟨g4, 0, none⟩ = some (.int .i64 0) := (blk_cell BK4.out 0).trans rfl; have f4_0_w12 : w12.frozen? ⟨g4, 0, none⟩ = false := blk_frozen BK4.out 0; have h4_1_w12 : w12.cell? ⟨g4, 1, none⟩ = some (.int .i64 0) := (blk_cell BK4.out 1).trans rfl; have f4_1_w12 : w12.frozen? ⟨g4, 1, none⟩ = false := blk_frozen BK4.out 1; have h6_0_w12 : w12.cell? ⟨g6, 0, none⟩ = some (.int .i64 (ba : Int)) := (blk_cell BK6.out 0).trans rfl; have f6_0_w12 : w12.frozen? ⟨g6, 0, none⟩ = false := blk_frozen BK6.out 0; have h6_1_w12 : w12.cell? ⟨g6, 1, none⟩ = some (.int .i64 (bb : Int)) := (blk_cell BK6.out 1).trans rfl; have f6_1_w12 : w12.frozen? ⟨g6, 1, none⟩ = false := blk_frozen BK6.out 1))
              go_region_held3 (fun w' => w'.cell? ⟨g8, 0, none⟩ = some (.int .i64 (sa : Int)) ∧ w'.cell? ⟨g8, 1, none⟩ = some (.int .i64 (sb : Int)) ∧ w'.cell? ⟨g6, 0, none⟩ = some (.int .i64 (ba : Int)) ∧ w'.cell? ⟨g6, 1, none⟩ = some (.int .i64 (bb : Int)) ∧ w'.cell? ⟨g2, 0, none⟩ = some (.slice A0 l0.length c0)) (exact ⟨(blk_cell (by (with_reducible repeat (first | refine blk_drewN ?_ _ | refine blk_drew ?_ | refine blk_alloc ?_ _)); exact BK8.out) 0).trans rfl, (blk_cell (by (with_reducible repeat (first | refine blk_drewN ?_ _ | refine blk_drew ?_ | refine blk_alloc ?_ _)); exact BK8.out) 1).trans rfl, (blk_cell (by (with_reducible repeat (first | refine blk_drewN ?_ _ | refine blk_drew ?_ | refine blk_alloc ?_ _)); exact BK6.out) 0).trans rfl, (blk_cell (by (with_reducible repeat (first | refine blk_drewN ?_ _ | refine blk_drew ?_ | refine blk_alloc ?_ _)); exact BK6.out) 1).trans rfl, (blk_cell (by (with_reducible repeat (first | refine blk_drewN ?_ _ | refine blk_drew ?_ | refine blk_alloc ?_ _)); exact BK2.out) 0).trans rfl⟩) (first | (((have tk_ := TOKA); clear tk_ TOKA; go_at_call 42; refine (impl_Bar_squares.calls _ _ _ _ HSQ8.out).mono ?_; rintro e w13 ⟨rfl, hb⟩; have n0_ := Aside0.mk (below_step (by repeat (first | (with_reducible first | exact HB.out | apply below_alloc | apply pw_below_drewN | apply below_drew1) | exact HB.out) : Below w.heap.size w _) hb); have n1_ := Aside0.mk (Go.Proofs.YtedpdfmaccoinaaDoor.Mem.grown_trans (by repeat (first | (with_reducible first | exact HQ.out | refine gr_alloc ?_ _ | refine gr_drewN ?_ _ | refine gr_drew ?_) | exact HQ.out) : wr.grownBy _ (some g6)) (Go.Proofs.YtedpdfmaccoinaaDoor.Mem.grown_below hb (some g6))); have n2_ := Aside0.mk (blk_below (g := g2) (o := .cells #[.slice A0 l0.length c0] 22 (0, 0)) (by (with_reducible repeat (first | refine blk_drewN ?_ _ | refine blk_drew ?_ | refine blk_alloc ?_ _)); exact BK2.out) hb); have n3_ := Aside0.mk (blk_below (g := g3) (o := .cells #[.int .i64 a1] 3 (0, 0)) (by (with_reducible repeat (first | refine blk_drewN ?_ _ | refine blk_drew ?_ | refine blk_alloc ?_ _)); exact BK3.out) hb); have n4_ := Aside0.mk (blk_below (g := g4) (o := .cells #[.int .i64 0, .int .i64 0] 30 (0, 0)) (by (with_reducible repeat (first | refine blk_drewN ?_ _ | refine blk_drew ?_ | refine blk_alloc ?_ _)); exact BK4.out) hb); have n5_ := Aside0.mk (blk_below (g := g6) (o := .cells #[.int .i64 (ba : Int), .int .i64 (bb : Int)] 30 (0, 0)) (by (with_reducible repeat (first | refine blk_drewN ?_ _ | refine blk_drew ?_ | refine blk_alloc ?_ _)); exact BK6.out) hb); have n6_ := Aside0.mk (blk_below (g := g8) (o := .cells #[.int .i64 (sa : Int), .int .i64 (sb : Int)] 30 (0, 0)) (by (with_reducible repeat (first | refine blk_drewN ?_ _ | refine blk_drew ?_ | refine blk_alloc ?_ _)); exact BK8.out) hb); clear HB HQ BK2 BK3 BK4 BK6 BK8; have HB := n0_; have HQ := n1_; have BK2 := n2_; have BK3 := n3_; have BK4 := n4_; have BK6 := n5_; have BK8 := n6_; clear n0_ n1_ n2_ n3_ n4_ n5_ n6_; clear hb; have h2_0_w13 : w13.cell? ⟨g2, 0, none⟩ = some (.slice A0 l0.length c0) := (blk_cell BK2.out 0).trans rfl; have f2_0_w13 : w13.frozen? ⟨g2, 0, none⟩ = false := blk_frozen BK2.out 0; have h3_0_w13 : w13.cell? ⟨g3, 0, none⟩ = some (.int .i64 a1) := (blk_cell BK3.out 0).trans rfl; have f3_0_w13 : w13.frozen? ⟨g3, 0, none⟩ = false := blk_frozen BK3.out 0; have h4_0_w13 : w13.cell? ⟨g4, 0, none⟩ = some (.int .i64 0) := (blk_cell BK4.out 0).trans rfl; have f4_0_w13 : w13.frozen? ⟨g4, 0, none⟩ = false := blk_frozen BK4.out 0; have h4_1_w13 : w13.cell? ⟨g4, 1, none⟩ = some (.int .i64 0) := (blk_cell BK4.out 1).trans rfl; have f4_1_w13 : w13.frozen? ⟨g4, 1, none⟩ = false := blk_frozen BK4.out 1; have h6_0_w13 : w13.cell? ⟨g6, 0, none⟩ = some (.int .i64 (ba : Int)) := (blk_cell BK6.out 0).trans rfl; have f6_0_w13 : w13.frozen? ⟨g6, 0, none⟩ = false := blk_frozen BK6.out 0; have h6_1_w13 : w13.cell? ⟨g6, 1, none⟩ = some (.int .i64 (bb : Int)) := (blk_cell BK6.out 1).trans rfl; have f6_1_w13 : w13.frozen? ⟨g6, 1, none⟩ = false := blk_frozen BK6.out 1; have h8_0_w13 : w13.cell? ⟨g8, 0, none⟩ = some (.int .i64 (sa : Int)) := (blk_cell BK8.out 0).trans rfl; have f8_0_w13 : w13.frozen? ⟨g8, 0, none⟩ = false := blk_frozen BK8.out 0; have h8_1_w13 : w13.cell? ⟨g8, 1, none⟩ = some (.int .i64 (sb : Int)) := (blk_cell BK8.out 1).trans rfl; have f8_1_w13 : w13.frozen? ⟨g8, 1, none⟩ = false := blk_frozen BK8.out 1)) | ((go_at_call 42; refine (impl_Bar_squares.calls _ _ _ _ HSQ6.out).mono ?_; rintro e w14 ⟨rfl, hb⟩; have n0_ := Aside0.mk (below_step (by repeat (first | (with_reducible first | exact HB.out | apply below_alloc | apply pw_below_drewN | apply below_drew1) | exact HB.out) : Below w.heap.size w _) hb); have n1_ := Aside0.mk (Go.Proofs.YtedpdfmaccoinaaDoor.Mem.grown_trans (by repeat (first | (with_reducible first | exact HQ.out | refine gr_alloc ?_ _ | refine gr_drewN ?_ _ | refine gr_drew ?_) | exact HQ.out) : wr.grownBy _ (some g6)) (Go.Proofs.YtedpdfmaccoinaaDoor.Mem.grown_below hb (some g6))); have n2_ := Aside0.mk (blk_below (g := g2) (o := .cells #[.slice A0 l0.length c0] 22 (0, 0)) (by (with_reducible repeat (first | refine blk_drewN ?_ _ | refine blk_drew ?_ | refine blk_alloc ?_ _)); exact BK2.out) hb); have n3_ := Aside0.mk (blk_below (g := g3) (o := .cells #[.int .i64 a1] 3 (0, 0)) (by (with_reducible repeat (first | refine blk_drewN ?_ _ | refine blk_drew ?_ | refine blk_alloc ?_ _)); exact BK3.out) hb); have n4_ := Aside0.mk (blk_below (g := g4) (o := .cells #[.int .i64 0, .int .i64 0] 30 (0, 0)) (by (with_reducible repeat (first | refine blk_drewN ?_ _ | refine blk_drew ?_ | refine blk_alloc ?_ _)); exact BK4.out) hb); have n5_ := Aside0.mk (blk_below (g := g6) (o := .cells #[.int .i64 (ba : Int), .int .i64 (bb : Int)] 30 (0, 0)) (by (with_reducible repeat (first | refine blk_drewN ?_ _ | refine blk_drew ?_ | refine blk_alloc ?_ _)); exact BK6.out) hb); have n6_ := Aside0.mk (blk_below (g := g8) (o := .cells #[.int .i64 (sa : Int), .int .i64 (sb : Int)] 30 (0, 0)) (by (with_reducible repeat (first | refine blk_drewN ?_ _ | refine blk_drew ?_ | refine blk_alloc ?_ _)); exact BK8.out) hb); clear HB HQ BK2 BK3 BK4 BK6 BK8; have HB := n0_; have HQ := n1_; have BK2 := n2_; have BK3 := n3_; have BK4 := n4_; have BK6 := n5_; have BK8 := n6_; clear n0_ n1_ n2_ n3_ n4_ n5_ n6_; clear hb; have h2_0_w14 : w14.cell? ⟨g2, 0, none⟩ = some (.slice A0 l0.length c0) := (blk_cell BK2.out 0).trans rfl; have f2_0_w14 : w14.frozen? ⟨g2, 0, none⟩ = false := blk_frozen BK2.out 0; have h3_0_w14 : w14.cell? ⟨g3, 0, none⟩ = some (.int .i64 a1) := (blk_cell BK3.out 0).trans rfl; have f3_0_w14 : w14.frozen? ⟨g3, 0, none⟩ = false := blk_frozen BK3.out 0; have h4_0_w14 : w14.cell? ⟨g4, 0, none⟩ = some (.int .i64 0) := (blk_cell BK4.out 0).trans rfl; have f4_0_w14 : w14.frozen? ⟨g4, 0, none⟩ = false := blk_frozen BK4.out 0; have h4_1_w14 : w14.cell? ⟨g4, 1, none⟩ = some (.int .i64 0) := (blk_cell BK4.out 1).trans rfl; have f4_1_w14 : w14.frozen? ⟨g4, 1, none⟩ = false := blk_frozen BK4.out 1; have h6_0_w14 : w14.cell? ⟨g6, 0, none⟩ = some (.int .i64 (ba : Int)) := (blk_cell BK6.out 0).trans rfl; have f6_0_w14 : w14.frozen? ⟨g6, 0, none⟩ = false := blk_frozen BK6.out 0; have h6_1_w14 : w14.cell? ⟨g6, 1, none⟩ = some (.int .i64 (bb : Int)) := (blk_cell BK6.out 1).trans rfl; have f6_1_w14 : w14.frozen? ⟨g6, 1, none⟩ = false := blk_frozen BK6.out 1; have h8_0_w14 : w14.cell? ⟨g8, 0, none⟩ = some (.int .i64 (sa : Int)) := (blk_cell BK8.out 0).trans rfl; have f8_0_w14 : w14.frozen? ⟨g8, 0, none⟩ = false := blk_frozen BK8.out 0; have h8_1_w14 : w14.cell? ⟨g8, 1, none⟩ = some (.int .i64 (sb : Int)) := (blk_cell BK8.out 1).trans rfl; have f8_1_w14 : w14.frozen? ⟨g8, 1, none⟩ = false := blk_frozen BK8.out 1)) | ((go_at_call 39; refine (impl_parts.calls kp _ _ l0 _ _ _ _ (Kd.C_below HR0.out (by repeat (first | (with_reducible first | exact HB.out | apply below_alloc | apply pw_below_drewN | apply below_drew1) | exact HB.out) : Below w.heap.size w _)) HC0.out HPA.out).mono ?_; rintro e w15 ⟨vp, rfl, hrp, hb⟩; have HRP := Aside0.mk hrp; have n0_ := Aside0.mk (below_step (by repeat (first | (with_reducible first | exact HB.out | apply below_alloc | apply pw_below_drewN | apply below_drew1) | exact HB.out) : Below w.heap.size w _) hb); have n1_ := Aside0.mk (Go.Proofs.YtedpdfmaccoinaaDoor.Mem.grown_trans (by repeat (first | (with_reducible first | exact HQ.out | refine gr_alloc ?_ _ | refine gr_drewN ?_ _ | refine gr_drew ?_) | exact HQ.out) : wr.grownBy _ (some g6)) (Go.Proofs.YtedpdfmaccoinaaDoor.Mem.grown_below hb (some g6))); have n2_ := Aside0.mk (blk_below (g := g2) (o := .cells #[.slice A0 l0.length c0] 22 (0, 0)) (by (with_reducible repeat (first | refine blk_drewN ?_ _ | refine blk_drew ?_ | refine blk_alloc ?_ _)); exact BK2.out) hb); have n3_ := Aside0.mk (blk_below (g := g3) (o := .cells #[.int .i64 a1] 3 (0, 0)) (by (with_reducible repeat (first | refine blk_drewN ?_ _ | refine blk_drew ?_ | refine blk_alloc ?_ _)); exact BK3.out) hb); have n4_ := Aside0.mk (blk_below (g := g4) (o := .cells #[.int .i64 0, .int .i64 0] 30 (0, 0)) (by (with_reducible repeat (first | refine blk_drewN ?_ _ | refine blk_drew ?_ | refine blk_alloc ?_ _)); exact BK4.out) hb); have n5_ := Aside0.mk (blk_below (g := g6) (o := .cells #[.int .i64 (ba : Int), .int .i64 (bb : Int)] 30 (0, 0)) (by (with_reducible repeat (first | refine blk_drewN ?_ _ | refine blk_drew ?_ | refine blk_alloc ?_ _)); exact BK6.out) hb); have n6_ := Aside0.mk (blk_below (g := g8) (o := .cells #[.int .i64 (sa : Int), .int .i64 (sb : Int)] 30 (0, 0)) (by (with_reducible repeat (first | refine blk_drewN ?_ _ | refine blk_drew ?_ | refine blk_alloc ?_ _)); exact BK8.out) hb); clear HB HQ BK2 BK3 BK4 BK6 BK8; have HB := n0_; have HQ := n1_; have BK2 := n2_; have BK3 := n3_; have BK4 := n4_; have BK6 := n5_; have BK8 := n6_; clear n0_ n1_ n2_ n3_ n4_ n5_ n6_; clear hb; have h2_0_w15 : w15.cell? ⟨g2, 0, none⟩ = some (.slice A0 l0.length c0) := (blk_cell BK2.out 0).trans rfl; have f2_0_w15 : w15.frozen? ⟨g2, 0, none⟩ = false := blk_frozen BK2.out 0; have h3_0_w15 : w15.cell? ⟨g3, 0, none⟩ = some (.int .i64 a1) := (blk_cell BK3.out 0).trans rfl; have f3_0_w15 : w15.frozen? ⟨g3, 0, none⟩ = false := blk_frozen BK3.out 0; have h4_0_w15 : w15.cell? ⟨g4, 0, none⟩ = some (.int .i64 0) := (blk_cell BK4.out 0).trans rfl; have f4_0_w15 : w15.frozen? ⟨g4, 0, none⟩ = false := blk_frozen BK4.out 0; have h4_1_w15 : w15.cell? ⟨g4, 1, none⟩ = some (.int .i64 0) := (blk_cell BK4.out 1).trans rfl; have f4_1_w15 : w15.frozen? ⟨g4, 1, none⟩ = false := blk_frozen BK4.out 1; have h6_0_w15 : w15.cell? ⟨g6, 0, none⟩ = some (.int .i64 (ba : Int)) := (blk_cell BK6.out 0).trans rfl; have f6_0_w15 : w15.frozen? ⟨g6, 0, none⟩ = false := blk_frozen BK6.out 0; have h6_1_w15 : w15.cell? ⟨g6, 1, none⟩ = some (.int .i64 (bb : Int)) := (blk_cell BK6.out 1).trans rfl; have f6_1_w15 : w15.frozen? ⟨g6, 1, none⟩ = false := blk_frozen BK6.out 1; have h8_0_w15 : w15.cell? ⟨g8, 0, none⟩ = some (.int .i64 (sa : Int)) := (blk_cell BK8.out 0).trans rfl; have f8_0_w15 : w15.frozen? ⟨g8, 0, none⟩ = false := blk_frozen BK8.out 0; have h8_1_w15 : w15.cell? ⟨g8, 1, none⟩ = some (.int .i64 (sb : Int)) := (blk_cell BK8.out 1).trans rfl; have f8_1_w15 : w15.frozen? ⟨g8, 1, none⟩ = false := blk_frozen BK8.out 1; clear hrp)) | ((go_at_call 43; refine (great_contains (a1 := a1) HNUT.out HME.out.1 HME.out.2 _ vp _ HRP.out BK2.out BK3.out (Kd.C_below HR0.out HB.out) HC0.out).mono ?_; rintro e w16 ⟨rfl, hb⟩; clear HRP; have n0_ := Aside0.mk (below_step (by repeat (first | (with_reducible first | exact HB.out | apply below_alloc | apply pw_below_drewN | apply below_drew1) | exact HB.out) : Below w.heap.size w _) hb); have n1_ := Aside0.mk (Go.Proofs.YtedpdfmaccoinaaDoor.Mem.grown_trans (by repeat (first | (with_reducible first | exact HQ.out | refine gr_alloc ?_ _ | refine gr_drewN ?_ _ | refine gr_drew ?_) | exact HQ.out) : wr.grownBy _ (some g6)) (Go.Proofs.YtedpdfmaccoinaaDoor.Mem.grown_below hb (some g6))); have n2_ := Aside0.mk (blk_below (g := g2) (o := .cells #[.slice A0 l0.length c0] 22 (0, 0)) (by (with_reducible repeat (first | refine blk_drewN ?_ _ | refine blk_drew ?_ | refine blk_alloc ?_ _)); exact BK2.out) hb); have n3_ := Aside0.mk (blk_below (g := g3) (o := .cells #[.int .i64 a1] 3 (0, 0)) (by (with_reducible repeat (first | refine blk_drewN ?_ _ | refine blk_drew ?_ | refine blk_alloc ?_ _)); exact BK3.out) hb); have n4_ := Aside0.mk (blk_below (g := g4) (o := .cells #[.int .i64 0, .int .i64 0] 30 (0, 0)) (by (with_reducible repeat (first | refine blk_drewN ?_ _ | refine blk_drew ?_ | refine blk_alloc ?_ _)); exact BK4.out) hb); have n5_ := Aside0.mk (blk_below (g := g6) (o := .cells #[.int .i64 (ba : Int), .int .i64 (bb : Int)] 30 (0, 0)) (by (with_reducible repeat (first | refine blk_drewN ?_ _ | refine blk_drew ?_ | refine blk_alloc ?_ _)); exact BK6.out) hb); have n6_ := Aside0.mk (blk_below (g := g8) (o := .cells #[.int .i64 (sa : Int), .int .i64 (sb : Int)] 30 (0, 0)) (by (with_reducible repeat (first | refine blk_drewN ?_ _ | refine blk_drew ?_ | refine blk_alloc ?_ _)); exact BK8.out) hb); clear HB HQ BK2 BK3 BK4 BK6 BK8; have HB := n0_; have HQ := n1_; have BK2 := n2_; have BK3 := n3_; have BK4 := n4_; have BK6 := n5_; have BK8 := n6_; clear n0_ n1_ n2_ n3_ n4_ n5_ n6_; clear hb; have h2_0_w16 : w16.cell? ⟨g2, 0, none⟩ = some (.slice A0 l0.length c0) := (blk_cell BK2.out 0).trans rfl; have f2_0_w16 : w16.frozen? ⟨g2, 0, none⟩ = false := blk_frozen BK2.out 0; have h3_0_w16 : w16.cell? ⟨g3, 0, none⟩ = some (.int .i64 a1) := (blk_cell BK3.out 0).trans rfl; have f3_0_w16 : w16.frozen? ⟨g3, 0, none⟩ = false := blk_frozen BK3.out 0; have h4_0_w16 : w16.cell? ⟨g4, 0, none⟩ = some (.int .i64 0) := (blk_cell BK4.out 0).trans rfl; have f4_0_w16 : w16.frozen? ⟨g4, 0, none⟩ = false := blk_frozen BK4.out 0; have h4_1_w16 : w16.cell? ⟨g4, 1, none⟩ = some (.int .i64 0) := (blk_cell BK4.out 1).trans rfl; have f4_1_w16 : w16.frozen? ⟨g4, 1, none⟩ = false := blk_frozen BK4.out 1; have h6_0_w16 : w16.cell? ⟨g6, 0, none⟩ = some (.int .i64 (ba : Int)) := (blk_cell BK6.out 0).trans rfl; have f6_0_w16 : w16.frozen? ⟨g6, 0, none⟩ = false := blk_frozen BK6.out 0; have h6_1_w16 : w16.cell? ⟨g6, 1, none⟩ = some (.int .i64 (bb : Int)) := (blk_cell BK6.out 1).trans rfl; have f6_1_w16 : w16.frozen? ⟨g6, 1, none⟩ = false := blk_frozen BK6.out 1; have h8_0_w16 : w16.cell? ⟨g8, 0, none⟩ = some (.int .i64 (sa : Int)) := (blk_cell BK8.out 0).trans rfl; have f8_0_w16 : w16.frozen? ⟨g8, 0, none⟩ = false := blk_frozen BK8.out 0; have h8_1_w16 : w16.cell? ⟨g8, 1, none⟩ = some (.int .i64 (sb : Int)) := (blk_cell BK8.out 1).trans rfl; have f8_1_w16 : w16.frozen? ⟨g8, 1, none⟩ = false := blk_frozen BK8.out 1)))
              all_goals go_wp2_with (first | ((with_reducible refine gate_store (t := 30) (p := 6) rfl ?_); refine store_event (t := 30) (p := 6) (v := ?vo_w17) (w1 := ((w16.setCell ⟨g6, 0, none⟩ (.int .i64 (sa : Int))).setCell ⟨g6, 1, none⟩ (.int .i64 (sb : Int)))) ?hg ?ho ?hn ?hr ?_; (case ho => rfl); (case hg => rfl); (case hn => rfl); (case hr => first | (go_simp; done) | (go_simp; rfl)); intro w17 hw; have n0_ := Aside0.mk (show Below w.heap.size w w17 by rw [hw]; exact (below_set (below_set HB.out GE6.out) GE6.out)); have n1_ := Aside0.mk (show wr.grownBy w17 (some g6) by rw [hw]; exact (grown_row (grown_row HQ.out _ _) _ _)); have n2_ := Aside0.mk (show w17.heap[g6]? = some (.cells #[.int .i64 (sa : Int), .int .i64 (sb : Int)] 30 (0, 0)) by rw [hw]; exact (blk_put (cs' := #[.int .i64 (sa : Int), .int .i64 (sb : Int)]) (blk_put (cs' := #[.int .i64 (sa : Int), .int .i64 (bb : Int)]) BK6.out 0 _ rfl) 1 _ rfl)); have n3_ := Aside0.mk (show w17.heap[g2]? = some (.cells #[.slice A0 l0.length c0] 22 (0, 0)) by rw [hw]; exact (blk_far (blk_far BK2.out NB2_6.out _) NB2_6.out _)); have n4_ := Aside0.mk (show w17.heap[g3]? = some (.cells #[.int .i64 a1] 3 (0, 0)) by rw [hw]; exact (blk_far (blk_far BK3.out NB3_6.out _) NB3_6.out _)); have n5_ := Aside0.mk (show w17.heap[g4]? = some (.cells #[.int .i64 0, .int .i64 0] 30 (0, 0)) by rw [hw]; exact (blk_far (blk_far BK4.out NB4_6.out _) NB4_6.out _)); have n6_ := Aside0.mk (show w17.heap[g8]? = some (.cells #[.int .i64 (sa : Int), .int .i64 (sb : Int)] 30 (0, 0)) by rw [hw]; exact (blk_far (blk_far BK8.out (Ne.symm NB6_8.out) _) (Ne.symm NB6_8.out) _)); clear HB HQ BK6 BK2 BK3 BK4 BK8; have HB := n0_; have HQ := n1_; have BK6 := n2_; have BK2 := n3_; have BK3 := n4_; have BK4 := n5_; have BK8 := n6_; clear n0_ n1_ n2_ n3_ n4_ n5_ n6_; clear hw; have h6_0_w17 : w17.cell? ⟨g6, 0, none⟩ = some (.int .i64 (sa : Int)) := (blk_cell BK6.out 0).trans rfl; have f6_0_w17 : w17.frozen? ⟨g6, 0, none⟩ = false := blk_frozen BK6.out 0; have h6_1_w17 : w17.cell? ⟨g6, 1, none⟩ = some (.int .i64 (sb : Int)) := (blk_cell BK6.out 1).trans rfl; have f6_1_w17 : w17.frozen? ⟨g6, 1, none⟩ = false := blk_frozen BK6.out 1; have h2_0_w17 : w17.cell? ⟨g2, 0, none⟩ = some (.slice A0 l0.length c0) := (blk_cell BK2.out 0).trans rfl; have f2_0_w17 : w17.frozen? ⟨g2, 0, none⟩ = false := blk_frozen BK2.out 0; have h3_0_w17 : w17.cell? ⟨g3, 0, none⟩ = some (.int .i64 a1) := (blk_cell BK3.out 0).trans rfl; have f3_0_w17 : w17.frozen? ⟨g3, 0, none⟩ = false := blk_frozen BK3.out 0; have h4_0_w17 : w17.cell? ⟨g4, 0, none⟩ = some (.int .i64 0) := (blk_cell BK4.out 0).trans rfl; have f4_0_w17 : w17.frozen? ⟨g4, 0, none⟩ = false := blk_frozen BK4.out 0; have h4_1_w17 : w17.cell? ⟨g4, 1, none⟩ = some (.int .i64 0) := (blk_cell BK4.out 1).trans rfl; have f4_1_w17 : w17.frozen? ⟨g4, 1, none⟩ = false := blk_frozen BK4.out 1; have h8_0_w17 : w17.cell? ⟨g8, 0, none⟩ = some (.int .i64 (sa : Int)) := (blk_cell BK8.out 0).trans rfl; have f8_0_w17 : w17.frozen? ⟨g8, 0, none⟩ = false := blk_frozen BK8.out 0; have h8_1_w17 : w17.cell? ⟨g8, 1, none⟩ = some (.int .i64 (sb : Int)) := (blk_cell BK8.out 1).trans rfl; have f8_1_w17 : w17.frozen? ⟨g8, 1, none⟩ = false := blk_frozen BK8.out 1))
              all_goals go_wp2
              all_goals go_roundg (ss.length - (n + 1))
              all_goals first | (have := HQQ.out; omega) | (refine ⟨n + 1, by go_num, ⟨HLT.out⟩, ⟨Nat.le_refl _⟩, HB, BK2, BK3, BK4, ⟨?_⟩, ⟨Kd.R_mono (Kd.R_step (Kd.R_bound HOr.out) (fun k hk hlt => HQ.out.block k hlt (fun e => by have := hk.2.1; have := G6B.out; have := Option.some.inj e; omega))) (fun _ h => h.1)⟩⟩; rw [HNEW.out]; exact BK6.out)
            · have e6 : decide (pcnt l0 wd a1 (sa, sb) > 0) = false := decide_eq_false hany
              have hnew : grUp l0 wd a1 ss (n + 1) = (ba, bb) := by rw [HSN.out]; unfold grt; rw [if_neg (fun h => hany h.2)]
              have HNEW := Aside0.mk hnew
              clear hnew hgt hany
              generalize ((sa * sb : Nat) : Int) = v8 at e5 HSQ8
              generalize ((ba * bb : Nat) : Int) = v6 at e5 HSQ6
              go_wp2_with (first | ((with_reducible refine gate_dst (N := 8) rfl ?_); refine box_event ?hg (N := 8) ?hd (cs := #[.int .i64 0, .int .i64 0]) (t := 30) ?hr ?_; (case hd => rfl); (case hg => rfl); (case hr => first | (go_simp; done) | (go_simp; rfl)); intro g8 hg w11 hbox hb; have GE8 := Aside0.mk (show w.heap.size ≤ g8 by rw [hg]; exact below_size (by repeat (first | (with_reducible first | exact HB.out | apply below_alloc | apply pw_below_drewN | apply below_drew1) | exact HB.out) : Below w.heap.size w _)); have GR8 := Aside0.mk (show wr.heap.size ≤ g8 by rw [hg]; exact (by repeat (first | (with_reducible first | exact HQ.out | refine gr_alloc ?_ _ | refine gr_drewN ?_ _ | refine gr_drew ?_) | exact HQ.out) : wr.grownBy _ (some g6)).size); have NB2_8 := Aside0.mk (show g2 ≠ g8 by rw [hg]; exact Nat.ne_of_lt (blk_lt (g := g2) (o := .cells #[.slice A0 l0.length c0] 22 (0, 0)) (by (with_reducible repeat (first | refine blk_drewN ?_ _ | refine blk_drew ?_ | refine blk_alloc ?_ _)); exact BK2.out))); have NB3_8 := Aside0.mk (show g3 ≠ g8 by rw [hg]; exact Nat.ne_of_lt (blk_lt (g := g3) (o := .cells #[.int .i64 a1] 3 (0, 0)) (by (with_reducible repeat (first | refine blk_drewN ?_ _ | refine blk_drew ?_ | refine blk_alloc ?_ _)); exact BK3.out))); have NB4_8 := Aside0.mk (show g4 ≠ g8 by rw [hg]; exact Nat.ne_of_lt (blk_lt (g := g4) (o := .cells #[.int .i64 0, .int .i64 0] 30 (0, 0)) (by (with_reducible repeat (first | refine blk_drewN ?_ _ | refine blk_drew ?_ | refine blk_alloc ?_ _)); exact BK4.out))); have NB6_8 := Aside0.mk (show g6 ≠ g8 by rw [hg]; exact Nat.ne_of_lt (blk_lt (g := g6) (o := .cells #[.int .i64 (ba : Int), .int .i64 (bb : Int)] 30 (0, 0)) (by (with_reducible repeat (first | refine blk_drewN ?_ _ | refine blk_drew ?_ | refine blk_alloc ?_ _)); exact BK6.out))); have BK8 := Aside0.mk hbox; have n0_ := Aside0.mk (below_step (by repeat (first | (with_reducible first | exact HB.out | apply below_alloc | apply pw_below_drewN | apply below_drew1) | exact HB.out) : Below w.heap.size w _) hb); have n1_ := Aside0.mk (Go.Proofs.YtedpdfmaccoinaaDoor.Mem.grown_trans (by repeat (first | (with_reducible first | exact HQ.out | refine gr_alloc ?_ _ | refine gr_drewN ?_ _ | refine gr_drew ?_) | exact HQ.out) : wr.grownBy _ (some g6)) (Go.Proofs.YtedpdfmaccoinaaDoor.Mem.grown_below hb (some g6))); have n2_ := Aside0.mk (blk_below (g := g2) (o := .cells #[.slice A0 l0.length c0] 22 (0, 0)) (by (with_reducible repeat (first | refine blk_drewN ?_ _ | refine blk_drew ?_ | refine blk_alloc ?_ _)); exact BK2.out) hb); have n3_ := Aside0.mk (blk_below (g := g3) (o := .cells #[.int .i64 a1] 3 (0, 0)) (by (with_reducible repeat (first | refine blk_drewN ?_ _ | refine blk_drew ?_ | refine blk_alloc ?_ _)); exact BK3.out) hb); have n4_ := Aside0.mk (blk_below (g := g4) (o := .cells #[.int .i64 0, .int .i64 0] 30 (0, 0)) (by (with_reducible repeat (first | refine blk_drewN ?_ _ | refine blk_drew ?_ | refine blk_alloc ?_ _)); exact BK4.out) hb); have n5_ := Aside0.mk (blk_below (g := g6) (o := .cells #[.int .i64 (ba : Int), .int .i64 (bb : Int)] 30 (0, 0)) (by (with_reducible repeat (first | refine blk_drewN ?_ _ | refine blk_drew ?_ | refine blk_alloc ?_ _)); exact BK6.out) hb); clear HB HQ BK2 BK3 BK4 BK6; have HB := n0_; have HQ := n1_; have BK2 := n2_; have BK3 := n3_; have BK4 := n4_; have BK6 := n5_; clear n0_ n1_ n2_ n3_ n4_ n5_; clear hb; have h2_0_w11 : w11.cell? ⟨g2, 0, none⟩ = some (.slice A0 l0.length c0) := (blk_cell BK2.out 0).trans rfl; have f2_0_w11 : w11.frozen? ⟨g2, 0, none⟩ = false := blk_frozen BK2.out 0; have h3_0_w11 : w11.cell? ⟨g3, 0, none⟩ = some (.int .i64 a1) := (blk_cell BK3.out 0).trans rfl; have f3_0_w11 : w11.frozen? ⟨g3, 0, none⟩ = false := blk_frozen BK3.out 0; have h4_0_w11 : w11.cell? ⟨g4, 0, none⟩ = some (.int .i64 0) := (blk_cell BK4.out 0).trans rfl; have f4_0_w11 : w11.frozen? ⟨g4, 0, none⟩ = false := blk_frozen BK4.out 0; have h4_1_w11 : w11.cell? ⟨g4, 1, none⟩ = some (.int .i64 0) := (blk_cell BK4.out 1).trans rfl; have f4_1_w11 : w11.frozen? ⟨g4, 1, none⟩ = false := blk_frozen BK4.out 1; have h6_0_w11 : w11.cell? ⟨g6, 0, none⟩ = some (.int .i64 (ba : Int)) := (blk_cell BK6.out 0).trans rfl; have f6_0_w11 : w11.frozen? ⟨g6, 0, none⟩ = false := blk_frozen BK6.out 0; have h6_1_w11 : w11.cell? ⟨g6, 1, none⟩ = some (.int .i64 (bb : Int)) := (blk_cell BK6.out 1).trans rfl; have f6_1_w11 : w11.frozen? ⟨g6, 1, none⟩ = false := blk_frozen BK6.out 1; clear hbox hg; have h8_0_w11 : w11.cell? ⟨g8, 0, none⟩ = some (.int .i64 0) := (blk_cell BK8.out 0).trans rfl; have f8_0_w11 : w11.frozen? ⟨g8, 0, none⟩ = false := blk_frozen BK8.out 0; have h8_1_w11 : w11.cell? ⟨g8, 1, none⟩ = some (.int .i64 0) := (blk_cell BK8.out 1).trans rfl; have f8_1_w11 : w11.frozen? ⟨g8, 1, none⟩ = false := blk_frozen BK8.out 1; have hnb28 := NB2_8.out; have hnc28 := Ne.symm NB2_8.out; have hnb38 := NB3_8.out; have hnc38 := Ne.symm NB3_8.out; have hnb48 := NB4_8.out; have hnc48 := Ne.symm NB4_8.out; have hnb68 := NB6_8.out; have hnc68 := Ne.symm NB6_8.out) | ((with_reducible refine gate_store (t := 30) (p := 8) rfl ?_); refine store_event (t := 30) (p := 8) (v := ?vo_w12) (w1 := ((w11.setCell ⟨g8, 0, none⟩ (.int .i64 (sa : Int))).setCell ⟨g8, 1, none⟩ (.int .i64 (sb : Int)))) ?hg ?ho ?hn ?hr ?_; (case ho => rfl); (case hg => rfl); (case hn => rfl); (case hr => first | (go_simp; done) | (go_simp; rfl)); intro w12 hw; have n0_ := Aside0.mk (show Below w.heap.size w w12 by rw [hw]; exact (below_set (below_set HB.out GE8.out) GE8.out)); have n1_ := Aside0.mk (show wr.grownBy w12 (some g6) by rw [hw]; exact (Go.Proofs.YtedpdfmaccoinaaDoor.Mem.grown_set (Go.Proofs.YtedpdfmaccoinaaDoor.Mem.grown_set HQ.out GR8.out _ _) GR8.out _ _)); have n2_ := Aside0.mk (show w12.heap[g8]? = some (.cells #[.int .i64 (sa : Int), .int .i64 (sb : Int)] 30 (0, 0)) by rw [hw]; exact (blk_put (cs' := #[.int .i64 (sa : Int), .int .i64 (sb : Int)]) (blk_put (cs' := #[.int .i64 (sa : Int), .int .i64 0]) BK8.out 0 _ rfl) 1 _ rfl)); have n3_ := Aside0.mk (show w12.heap[g2]? = some (.cells #[.slice A0 l0.length c0] 22 (0, 0)) by rw [hw]; exact (blk_far (blk_far BK2.out NB2_8.out _) NB2_8.out _)); have n4_ := Aside0.mk (show w12.heap[g3]? = some (.cells #[.int .i64 a1] 3 (0, 0)) by rw [hw]; exact (blk_far (blk_far BK3.out NB3_8.out _) NB3_8.out _)); have n5_ := Aside0.mk (show w12.heap[g4]? = some (.cells #[.int .i64 0, .int .i64 0] 30 (0, 0)) by rw [hw]; exact (blk_far (blk_far BK4.out NB4_8.out _) NB4_8.out _)); have n6_ := Aside0.mk (show w12.heap[g6]? = some (.cells #[.int .i64 (ba : Int), .int .i64 (bb : Int)] 30 (0, 0)) by rw [hw]; exact (blk_far (blk_far BK6.out NB6_8.out _) NB6_8.out _)); clear HB HQ BK8 BK2 BK3 BK4 BK6; have HB := n0_; have HQ := n1_; have BK8 := n2_; have BK2 := n3_; have BK3 := n4_; have BK4 := n5_; have BK6 := n6_; clear n0_ n1_ n2_ n3_ n4_ n5_ n6_; clear hw; have h8_0_w12 : w12.cell? ⟨g8, 0, none⟩ = some (.int .i64 (sa : Int)) := (blk_cell BK8.out 0).trans rfl; have f8_0_w12 : w12.frozen? ⟨g8, 0, none⟩ = false := blk_frozen BK8.out 0; have h8_1_w12 : w12.cell? ⟨g8, 1, none⟩ = some (.int .i64 (sb : Int)) := (blk_cell BK8.out 1).trans rfl; have f8_1_w12 : w12.frozen? ⟨g8, 1, none⟩ = false := blk_frozen BK8.out 1; have h2_0_w12 : w12.cell? ⟨g2, 0, none⟩ = some (.slice A0 l0.length c0) := (blk_cell BK2.out 0).trans rfl; have f2_0_w12 : w12.frozen? ⟨g2, 0, none⟩ = false := blk_frozen BK2.out 0; have h3_0_w12 : w12.cell? ⟨g3, 0, none⟩ = some (.int .i64 a1) := (blk_cell BK3.out 0).trans rfl; have f3_0_w12 : w12.frozen? ⟨g3, 0, none⟩ = false := blk_frozen BK3.out 0; have h4_0_w12 : w12.cell? ⟨g4, 0, none⟩ = some (.int .i64 0) := (blk_cell BK4.out 0).trans rfl; have f4_0_w12 : w12.frozen? ⟨g4, 0, none⟩ = false := blk_frozen BK4.out 0; have h4_1_w12 : w12.cell? ⟨g4, 1, none⟩ = some (.int .i64 0) := (blk_cell BK4.out 1).trans rfl; have f4_1_w12 : w12.frozen? ⟨g4, 1, none⟩ = false := blk_frozen BK4.out 1; have h6_0_w12 : w12.cell? ⟨g6, 0, none⟩ = some (.int .i64 (ba : Int)) := (blk_cell BK6.out 0).trans rfl; have f6_0_w12 : w12.frozen? ⟨g6, 0, none⟩ = false := blk_frozen BK6.out 0; have h6_1_w12 : w12.cell? ⟨g6, 1, none⟩ = some (.int .i64 (bb : Int)) := (blk_cell BK6.out 1).trans rfl; have f6_1_w12 : w12.frozen? ⟨g6, 1, none⟩ = false := blk_frozen BK6.out 1))
              go_region_held3 (fun w' => w'.cell? ⟨g8, 0, none⟩ = some (.int .i64 (sa : Int)) ∧ w'.cell? ⟨g8, 1, none⟩ = some (.int .i64 (sb : Int)) ∧ w'.cell? ⟨g6, 0, none⟩ = some (.int .i64 (ba : Int)) ∧ w'.cell? ⟨g6, 1, none⟩ = some (.int .i64 (bb : Int)) ∧ w'.cell? ⟨g2, 0, none⟩ = some (.slice A0 l0.length c0)) (exact ⟨(blk_cell (by (with_reducible repeat (first | refine blk_drewN ?_ _ | refine blk_drew ?_ | refine blk_alloc ?_ _)); exact BK8.out) 0).trans rfl, (blk_cell (by (with_reducible repeat (first | refine blk_drewN ?_ _ | refine blk_drew ?_ | refine blk_alloc ?_ _)); exact BK8.out) 1).trans rfl, (blk_cell (by (with_reducible repeat (first | refine blk_drewN ?_ _ | refine blk_drew ?_ | refine blk_alloc ?_ _)); exact BK6.out) 0).trans rfl, (blk_cell (by (with_reducible repeat (first | refine blk_drewN ?_ _ | refine blk_drew ?_ | refine blk_alloc ?_ _)); exact BK6.out) 1).trans rfl, (blk_cell (by (with_reducible repeat (first | refine blk_drewN ?_ _ | refine blk_drew ?_ | refine blk_alloc ?_ _)); exact BK2.out) 0).trans rfl⟩) (first | (((have tk_ := TOKA); clear tk_ TOKA; go_at_call 42; refine (impl_Bar_squares.calls _ _ _ _ HSQ8.out).mono ?_; rintro e w13 ⟨rfl, hb⟩; have n0_ := Aside0.mk (below_step (by repeat (first | (with_reducible first | exact HB.out | apply below_alloc | apply pw_below_drewN | apply below_drew1) | exact HB.out) : Below w.heap.size w _) hb); have n1_ := Aside0.mk (Go.Proofs.YtedpdfmaccoinaaDoor.Mem.grown_trans (by repeat (first | (with_reducible first | exact HQ.out | refine gr_alloc ?_ _ | refine gr_drewN ?_ _ | refine gr_drew ?_) | exact HQ.out) : wr.grownBy _ (some g6)) (Go.Proofs.YtedpdfmaccoinaaDoor.Mem.grown_below hb (some g6))); have n2_ := Aside0.mk (blk_below (g := g2) (o := .cells #[.slice A0 l0.length c0] 22 (0, 0)) (by (with_reducible repeat (first | refine blk_drewN ?_ _ | refine blk_drew ?_ | refine blk_alloc ?_ _)); exact BK2.out) hb); have n3_ := Aside0.mk (blk_below (g := g3) (o := .cells #[.int .i64 a1] 3 (0, 0)) (by (with_reducible repeat (first | refine blk_drewN ?_ _ | refine blk_drew ?_ | refine blk_alloc ?_ _)); exact BK3.out) hb); have n4_ := Aside0.mk (blk_below (g := g4) (o := .cells #[.int .i64 0, .int .i64 0] 30 (0, 0)) (by (with_reducible repeat (first | refine blk_drewN ?_ _ | refine blk_drew ?_ | refine blk_alloc ?_ _)); exact BK4.out) hb); have n5_ := Aside0.mk (blk_below (g := g6) (o := .cells #[.int .i64 (ba : Int), .int .i64 (bb : Int)] 30 (0, 0)) (by (with_reducible repeat (first | refine blk_drewN ?_ _ | refine blk_drew ?_ | refine blk_alloc ?_ _)); exact BK6.out) hb); have n6_ := Aside0.mk (blk_below (g := g8) (o := .cells #[.int .i64 (sa : Int), .int .i64 (sb : Int)] 30 (0, 0)) (by (with_reducible repeat (first | refine blk_drewN ?_ _ | refine blk_drew ?_ | refine blk_alloc ?_ _)); exact BK8.out) hb); clear HB HQ BK2 BK3 BK4 BK6 BK8; have HB := n0_; have HQ := n1_; have BK2 := n2_; have BK3 := n3_; have BK4 := n4_; have BK6 := n5_; have BK8 := n6_; clear n0_ n1_ n2_ n3_ n4_ n5_ n6_; clear hb; have h2_0_w13 : w13.cell? ⟨g2, 0, none⟩ = some (.slice A0 l0.length c0) := (blk_cell BK2.out 0).trans rfl; have f2_0_w13 : w13.frozen? ⟨g2, 0, none⟩ = false := blk_frozen BK2.out 0; have h3_0_w13 : w13.cell? ⟨g3, 0, none⟩ = some (.int .i64 a1) := (blk_cell BK3.out 0).trans rfl; have f3_0_w13 : w13.frozen? ⟨g3, 0, none⟩ = false := blk_frozen BK3.out 0; have h4_0_w13 : w13.cell? ⟨g4, 0, none⟩ = some (.int .i64 0) := (blk_cell BK4.out 0).trans rfl; have f4_0_w13 : w13.frozen? ⟨g4, 0, none⟩ = false := blk_frozen BK4.out 0; have h4_1_w13 : w13.cell? ⟨g4, 1, none⟩ = some (.int .i64 0) := (blk_cell BK4.out 1).trans rfl; have f4_1_w13 : w13.frozen? ⟨g4, 1, none⟩ = false := blk_frozen BK4.out 1; have h6_0_w13 : w13.cell? ⟨g6, 0, none⟩ = some (.int .i64 (ba : Int)) := (blk_cell BK6.out 0).trans rfl; have f6_0_w13 : w13.frozen? ⟨g6, 0, none⟩ = false := blk_frozen BK6.out 0; have h6_1_w13 : w13.cell? ⟨g6, 1, none⟩ = some (.int .i64 (bb : Int)) := (blk_cell BK6.out 1).trans rfl; have f6_1_w13 : w13.frozen? ⟨g6, 1, none⟩ = false := blk_frozen BK6.out 1; have h8_0_w13 : w13.cell? ⟨g8, 0, none⟩ = some (.int .i64 (sa : Int)) := (blk_cell BK8.out 0).trans rfl; have f8_0_w13 : w13.frozen? ⟨g8, 0, none⟩ = false := blk_frozen BK8.out 0; have h8_1_w13 : w13.cell? ⟨g8, 1, none⟩ = some (.int .i64 (sb : Int)) := (blk_cell BK8.out 1).trans rfl; have f8_1_w13 : w13.frozen? ⟨g8, 1, none⟩ = false := blk_frozen BK8.out 1)) | ((go_at_call 42; refine (impl_Bar_squares.calls _ _ _ _ HSQ6.out).mono ?_; rintro e w14 ⟨rfl, hb⟩; have n0_ := Aside0.mk (below_step (by repeat (first | (with_reducible first | exact HB.out | apply below_alloc | apply pw_below_drewN | apply below_drew1) | exact HB.out) : Below w.heap.size w _) hb); have n1_ := Aside0.mk (Go.Proofs.YtedpdfmaccoinaaDoor.Mem.grown_trans (by repeat (first | (with_reducible first | exact HQ.out | refine gr_alloc ?_ _ | refine gr_drewN ?_ _ | refine gr_drew ?_) | exact HQ.out) : wr.grownBy _ (some g6)) (Go.Proofs.YtedpdfmaccoinaaDoor.Mem.grown_below hb (some g6))); have n2_ := Aside0.mk (blk_below (g := g2) (o := .cells #[.slice A0 l0.length c0] 22 (0, 0)) (by (with_reducible repeat (first | refine blk_drewN ?_ _ | refine blk_drew ?_ | refine blk_alloc ?_ _)); exact BK2.out) hb); have n3_ := Aside0.mk (blk_below (g := g3) (o := .cells #[.int .i64 a1] 3 (0, 0)) (by (with_reducible repeat (first | refine blk_drewN ?_ _ | refine blk_drew ?_ | refine blk_alloc ?_ _)); exact BK3.out) hb); have n4_ := Aside0.mk (blk_below (g := g4) (o := .cells #[.int .i64 0, .int .i64 0] 30 (0, 0)) (by (with_reducible repeat (first | refine blk_drewN ?_ _ | refine blk_drew ?_ | refine blk_alloc ?_ _)); exact BK4.out) hb); have n5_ := Aside0.mk (blk_below (g := g6) (o := .cells #[.int .i64 (ba : Int), .int .i64 (bb : Int)] 30 (0, 0)) (by (with_reducible repeat (first | refine blk_drewN ?_ _ | refine blk_drew ?_ | refine blk_alloc ?_ _)); exact BK6.out) hb); have n6_ := Aside0.mk (blk_below (g := g8) (o := .cells #[.int .i64 (sa : Int), .int .i64 (sb : Int)] 30 (0, 0)) (by (with_reducible repeat (first | refine blk_drewN ?_ _ | refine blk_drew ?_ | refine blk_alloc ?_ _)); exact BK8.out) hb); clear HB HQ BK2 BK3 BK4 BK6 BK8; have HB := n0_; have HQ := n1_; have BK2 := n2_; have BK3 := n3_; have BK4 := n4_; have BK6 := n5_; have BK8 := n6_; clear n0_ n1_ n2_ n3_ n4_ n5_ n6_; clear hb; have h2_0_w14 : w14.cell? ⟨g2, 0, none⟩ = some (.slice A0 l0.length c0) := (blk_cell BK2.out 0).trans rfl; have f2_0_w14 : w14.frozen? ⟨g2, 0, none⟩ = false := blk_frozen BK2.out 0; have h3_0_w14 : w14.cell? ⟨g3, 0, none⟩ = some (.int .i64 a1) := (blk_cell BK3.out 0).trans rfl; have f3_0_w14 : w14.frozen? ⟨g3, 0, none⟩ = false := blk_frozen BK3.out 0; have h4_0_w14 : w14.cell? ⟨g4, 0, none⟩ = some (.int .i64 0) := (blk_cell BK4.out 0).trans rfl; have f4_0_w14 : w14.frozen? ⟨g4, 0, none⟩ = false := blk_frozen BK4.out 0; have h4_1_w14 : w14.cell? ⟨g4, 1, none⟩ = some (.int .i64 0) := (blk_cell BK4.out 1).trans rfl; have f4_1_w14 : w14.frozen? ⟨g4, 1, none⟩ = false := blk_frozen BK4.out 1; have h6_0_w14 : w14.cell? ⟨g6, 0, none⟩ = some (.int .i64 (ba : Int)) := (blk_cell BK6.out 0).trans rfl; have f6_0_w14 : w14.frozen? ⟨g6, 0, none⟩ = false := blk_frozen BK6.out 0; have h6_1_w14 : w14.cell? ⟨g6, 1, none⟩ = some (.int .i64 (bb : Int)) := (blk_cell BK6.out 1).trans rfl; have f6_1_w14 : w14.frozen? ⟨g6, 1, none⟩ = false := blk_frozen BK6.out 1; have h8_0_w14 : w14.cell? ⟨g8, 0, none⟩ = some (.int .i64 (sa : Int)) := (blk_cell BK8.out 0).trans rfl; have f8_0_w14 : w14.frozen? ⟨g8, 0, none⟩ = false := blk_frozen BK8.out 0; have h8_1_w14 : w14.cell? ⟨g8, 1, none⟩ = some (.int .i64 (sb : Int)) := (blk_cell BK8.out 1).trans rfl; have f8_1_w14 : w14.frozen? ⟨g8, 1, none⟩ = false := blk_frozen BK8.out 1)) | ((go_at_call 39; refine (impl_parts.calls kp _ _ l0 _ _ _ _ (Kd.C_below HR0.out (by repeat (first | (with_reducible first | exact HB.out | apply below_alloc | apply pw_below_drewN | apply below_drew1) | exact HB.out) : Below w.heap.size w _)) HC0.out HPA.out).mono ?_; rintro e w15 ⟨vp, rfl, hrp, hb⟩; have HRP := Aside0.mk hrp; have n0_ := Aside0.mk (below_step (by repeat (first | (with_reducible first | exact HB.out | apply below_alloc | apply pw_below_drewN | apply below_drew1) | exact HB.out) : Below w.heap.size w _) hb); have n1_ := Aside0.mk (Go.Proofs.YtedpdfmaccoinaaDoor.Mem.grown_trans (by repeat (first | (with_reducible first | exact HQ.out | refine gr_alloc ?_ _ | refine gr_drewN ?_ _ | refine gr_drew ?_) | exact HQ.out) : wr.grownBy _ (some g6)) (Go.Proofs.YtedpdfmaccoinaaDoor.Mem.grown_below hb (some g6))); have n2_ := Aside0.mk (blk_below (g := g2) (o := .cells #[.slice A0 l0.length c0] 22 (0, 0)) (by (with_reducible repeat (first | refine blk_drewN ?_ _ | refine blk_drew ?_ | refine blk_alloc ?_ _)); exact BK2.out) hb); have n3_ := Aside0.mk (blk_below (g := g3) (o := .cells #[.int .i64 a1] 3 (0, 0)) (by (with_reducible repeat (first | refine blk_drewN ?_ _ | refine blk_drew ?_ | refine blk_alloc ?_ _)); exact BK3.out) hb); have n4_ := Aside0.mk (blk_below (g := g4) (o := .cells #[.int .i64 0, .int .i64 0] 30 (0, 0)) (by (with_reducible repeat (first | refine blk_drewN ?_ _ | refine blk_drew ?_ | refine blk_alloc ?_ _)); exact BK4.out) hb); have n5_ := Aside0.mk (blk_below (g := g6) (o := .cells #[.int .i64 (ba : Int), .int .i64 (bb : Int)] 30 (0, 0)) (by (with_reducible repeat (first | refine blk_drewN ?_ _ | refine blk_drew ?_ | refine blk_alloc ?_ _)); exact BK6.out) hb); have n6_ := Aside0.mk (blk_below (g := g8) (o := .cells #[.int .i64 (sa : Int), .int .i64 (sb : Int)] 30 (0, 0)) (by (with_reducible repeat (first | refine blk_drewN ?_ _ | refine blk_drew ?_ | refine blk_alloc ?_ _)); exact BK8.out) hb); clear HB HQ BK2 BK3 BK4 BK6 BK8; have HB := n0_; have HQ := n1_; have BK2 := n2_; have BK3 := n3_; have BK4 := n4_; have BK6 := n5_; have BK8 := n6_; clear n0_ n1_ n2_ n3_ n4_ n5_ n6_; clear hb; have h2_0_w15 : w15.cell? ⟨g2, 0, none⟩ = some (.slice A0 l0.length c0) := (blk_cell BK2.out 0).trans rfl; have f2_0_w15 : w15.frozen? ⟨g2, 0, none⟩ = false := blk_frozen BK2.out 0; have h3_0_w15 : w15.cell? ⟨g3, 0, none⟩ = some (.int .i64 a1) := (blk_cell BK3.out 0).trans rfl; have f3_0_w15 : w15.frozen? ⟨g3, 0, none⟩ = false := blk_frozen BK3.out 0; have h4_0_w15 : w15.cell? ⟨g4, 0, none⟩ = some (.int .i64 0) := (blk_cell BK4.out 0).trans rfl; have f4_0_w15 : w15.frozen? ⟨g4, 0, none⟩ = false := blk_frozen BK4.out 0; have h4_1_w15 : w15.cell? ⟨g4, 1, none⟩ = some (.int .i64 0) := (blk_cell BK4.out 1).trans rfl; have f4_1_w15 : w15.frozen? ⟨g4, 1, none⟩ = false := blk_frozen BK4.out 1; have h6_0_w15 : w15.cell? ⟨g6, 0, none⟩ = some (.int .i64 (ba : Int)) := (blk_cell BK6.out 0).trans rfl; have f6_0_w15 : w15.frozen? ⟨g6, 0, none⟩ = false := blk_frozen BK6.out 0; have h6_1_w15 : w15.cell? ⟨g6, 1, none⟩ = some (.int .i64 (bb : Int)) := (blk_cell BK6.out 1).trans rfl; have f6_1_w15 : w15.frozen? ⟨g6, 1, none⟩ = false := blk_frozen BK6.out 1; have h8_0_w15 : w15.cell? ⟨g8, 0, none⟩ = some (.int .i64 (sa : Int)) := (blk_cell BK8.out 0).trans rfl; have f8_0_w15 : w15.frozen? ⟨g8, 0, none⟩ = false := blk_frozen BK8.out 0; have h8_1_w15 : w15.cell? ⟨g8, 1, none⟩ = some (.int .i64 (sb : Int)) := (blk_cell BK8.out 1).trans rfl; have f8_1_w15 : w15.frozen? ⟨g8, 1, none⟩ = false := blk_frozen BK8.out 1; clear hrp)) | ((go_at_call 43; refine (great_contains (a1 := a1) HNUT.out HME.out.1 HME.out.2 _ vp _ HRP.out BK2.out BK3.out (Kd.C_below HR0.out HB.out) HC0.out).mono ?_; rintro e w16 ⟨rfl, hb⟩; clear HRP; have n0_ := Aside0.mk (below_step (by repeat (first | (with_reducible first | exact HB.out | apply below_alloc | apply pw_below_drewN | apply below_drew1) | exact HB.out) : Below w.heap.size w _) hb); have n1_ := Aside0.mk (Go.Proofs.YtedpdfmaccoinaaDoor.Mem.grown_trans (by repeat (first | (with_reducible first | exact HQ.out | refine gr_alloc ?_ _ | refine gr_drewN ?_ _ | refine gr_drew ?_) | exact HQ.out) : wr.grownBy _ (some g6)) (Go.Proofs.YtedpdfmaccoinaaDoor.Mem.grown_below hb (some g6))); have n2_ := Aside0.mk (blk_below (g := g2) (o := .cells #[.slice A0 l0.length c0] 22 (0, 0)) (by (with_reducible repeat (first | refine blk_drewN ?_ _ | refine blk_drew ?_ | refine blk_alloc ?_ _)); exact BK2.out) hb); have n3_ := Aside0.mk (blk_below (g := g3) (o := .cells #[.int .i64 a1] 3 (0, 0)) (by (with_reducible repeat (first | refine blk_drewN ?_ _ | refine blk_drew ?_ | refine blk_alloc ?_ _)); exact BK3.out) hb); have n4_ := Aside0.mk (blk_below (g := g4) (o := .cells #[.int .i64 0, .int .i64 0] 30 (0, 0)) (by (with_reducible repeat (first | refine blk_drewN ?_ _ | refine blk_drew ?_ | refine blk_alloc ?_ _)); exact BK4.out) hb); have n5_ := Aside0.mk (blk_below (g := g6) (o := .cells #[.int .i64 (ba : Int), .int .i64 (bb : Int)] 30 (0, 0)) (by (with_reducible repeat (first | refine blk_drewN ?_ _ | refine blk_drew ?_ | refine blk_alloc ?_ _)); exact BK6.out) hb); have n6_ := Aside0.mk (blk_below (g := g8) (o := .cells #[.int .i64 (sa : Int), .int .i64 (sb : Int)] 30 (0, 0)) (by (with_reducible repeat (first | refine blk_drewN ?_ _ | refine blk_drew ?_ | refine blk_alloc ?_ _)); exact BK8.out) hb); clear HB HQ BK2 BK3 BK4 BK6 BK8; have HB := n0_; have HQ := n1_; have BK2 := n2_; have BK3 := n3_; have BK4 := n4_; have BK6 := n5_; have BK8 := n6_; clear n0_ n1_ n2_ n3_ n4_ n5_ n6_; clear hb; have h2_0_w16 : w16.cell? ⟨g2, 0, none⟩ = some (.slice A0 l0.length c0) := (blk_cell BK2.out 0).trans rfl; have f2_0_w16 : w16.frozen? ⟨g2, 0, none⟩ = false := blk_frozen BK2.out 0; have h3_0_w16 : w16.cell? ⟨g3, 0, none⟩ = some (.int .i64 a1) := (blk_cell BK3.out 0).trans rfl; have f3_0_w16 : w16.frozen? ⟨g3, 0, none⟩ = false := blk_frozen BK3.out 0; have h4_0_w16 : w16.cell? ⟨g4, 0, none⟩ = some (.int .i64 0) := (blk_cell BK4.out 0).trans rfl; have f4_0_w16 : w16.frozen? ⟨g4, 0, none⟩ = false := blk_frozen BK4.out 0; have h4_1_w16 : w16.cell? ⟨g4, 1, none⟩ = some (.int .i64 0) := (blk_cell BK4.out 1).trans rfl; have f4_1_w16 : w16.frozen? ⟨g4, 1, none⟩ = false := blk_frozen BK4.out 1; have h6_0_w16 : w16.cell? ⟨g6, 0, none⟩ = some (.int .i64 (ba : Int)) := (blk_cell BK6.out 0).trans rfl; have f6_0_w16 : w16.frozen? ⟨g6, 0, none⟩ = false := blk_frozen BK6.out 0; have h6_1_w16 : w16.cell? ⟨g6, 1, none⟩ = some (.int .i64 (bb : Int)) := (blk_cell BK6.out 1).trans rfl; have f6_1_w16 : w16.frozen? ⟨g6, 1, none⟩ = false := blk_frozen BK6.out 1; have h8_0_w16 : w16.cell? ⟨g8, 0, none⟩ = some (.int .i64 (sa : Int)) := (blk_cell BK8.out 0).trans rfl; have f8_0_w16 : w16.frozen? ⟨g8, 0, none⟩ = false := blk_frozen BK8.out 0; have h8_1_w16 : w16.cell? ⟨g8, 1, none⟩ = some (.int .i64 (sb : Int)) := (blk_cell BK8.out 1).trans rfl; have f8_1_w16 : w16.frozen? ⟨g8, 1, none⟩ = false := blk_frozen BK8.out 1)))
              all_goals go_wp2
              all_goals go_roundg (ss.length - (n + 1))
              all_goals first | (have := HQQ.out; omega) | (refine ⟨n + 1, by go_num, ⟨HLT.out⟩, ⟨Nat.le_refl _⟩, HB, BK2, BK3, BK4, ⟨?_⟩, ⟨Kd.R_mono (Kd.R_step (Kd.R_bound HOr.out) (fun k hk hlt => HQ.out.block k hlt (fun e => by have := hk.2.1; have := G6B.out; have := Option.some.inj e; omega))) (fun _ h => h.1)⟩⟩; rw [HNEW.out]; exact BK6.out)
          · have e5 : decide (((ba * bb : Nat) : Int) < ((sa * sb : Nat) : Int)) = false := decide_eq_false (by omega)
            have hnew : grUp l0 wd a1 ss (n + 1) = (ba, bb) := by rw [HSN.out]; unfold grt; rw [if_neg (fun h => hgt h.1)]
            have HNEW := Aside0.mk hnew
            clear hnew hgt
            have TOKA : True := trivial
            generalize ((sa * sb : Nat) : Int) = v8 at e5 HSQ8
            generalize ((ba * bb : Nat) : Int) = v6 at e5 HSQ6
            go_wp2_with (first | ((with_reducible refine gate_dst (N := 8) rfl ?_); refine box_event ?hg (N := 8) ?hd (cs := #[.int .i64 0, .int .i64 0]) (t := 30) ?hr ?_; (case hd => rfl); (case hg => rfl); (case hr => first | (go_simp; done) | (go_simp; rfl)); intro g8 hg w11 hbox hb; have GE8 := Aside0.mk (show w.heap.size ≤ g8 by rw [hg]; exact below_size (by repeat (first | (with_reducible first | exact HB.out | apply below_alloc | apply pw_below_drewN | apply below_drew1) | exact HB.out) : Below w.heap.size w _)); have GR8 := Aside0.mk (show wr.heap.size ≤ g8 by rw [hg]; exact (by repeat (first | (with_reducible first | exact HQ.out | refine gr_alloc ?_ _ | refine gr_drewN ?_ _ | refine gr_drew ?_) | exact HQ.out) : wr.grownBy _ (some g6)).size); have NB2_8 := Aside0.mk (show g2 ≠ g8 by rw [hg]; exact Nat.ne_of_lt (blk_lt (g := g2) (o := .cells #[.slice A0 l0.length c0] 22 (0, 0)) (by (with_reducible repeat (first | refine blk_drewN ?_ _ | refine blk_drew ?_ | refine blk_alloc ?_ _)); exact BK2.out))); have NB3_8 := Aside0.mk (show g3 ≠ g8 by rw [hg]; exact Nat.ne_of_lt (blk_lt (g := g3) (o := .cells #[.int .i64 a1] 3 (0, 0)) (by (with_reducible repeat (first | refine blk_drewN ?_ _ | refine blk_drew ?_ | refine blk_alloc ?_ _)); exact BK3.out))); have NB4_8 := Aside0.mk (show g4 ≠ g8 by rw [hg]; exact Nat.ne_of_lt (blk_lt (g := g4) (o := .cells #[.int .i64 0, .int .i64 0] 30 (0, 0)) (by (with_reducible repeat (first | refine blk_drewN ?_ _ | refine blk_drew ?_ | refine blk_alloc ?_ _)); exact BK4.out))); have NB6_8 := Aside0.mk (show g6 ≠ g8 by rw [hg]; exact Nat.ne_of_lt (blk_lt (g := g6) (o := .cells #[.int .i64 (ba : Int), .int .i64 (bb : Int)] 30 (0, 0)) (by (with_reducible repeat (first | refine blk_drewN ?_ _ | refine blk_drew ?_ | refine blk_alloc ?_ _)); exact BK6.out))); have BK8 := Aside0.mk hbox; have n0_ := Aside0.mk (below_step (by repeat (first | (with_reducible first | exact HB.out | apply below_alloc | apply pw_below_drewN | apply below_drew1) | exact HB.out) : Below w.heap.size w _) hb); have n1_ := Aside0.mk (Go.Proofs.YtedpdfmaccoinaaDoor.Mem.grown_trans (by repeat (first | (with_reducible first | exact HQ.out | refine gr_alloc ?_ _ | refine gr_drewN ?_ _ | refine gr_drew ?_) | exact HQ.out) : wr.grownBy _ (some g6)) (Go.Proofs.YtedpdfmaccoinaaDoor.Mem.grown_below hb (some g6))); have n2_ := Aside0.mk (blk_below (g := g2) (o := .cells #[.slice A0 l0.length c0] 22 (0, 0)) (by (with_reducible repeat (first | refine blk_drewN ?_ _ | refine blk_drew ?_ | refine blk_alloc ?_ _)); exact BK2.out) hb); have n3_ := Aside0.mk (blk_below (g := g3) (o := .cells #[.int .i64 a1] 3 (0, 0)) (by (with_reducible repeat (first | refine blk_drewN ?_ _ | refine blk_drew ?_ | refine blk_alloc ?_ _)); exact BK3.out) hb); have n4_ := Aside0.mk (blk_below (g := g4) (o := .cells #[.int .i64 0, .int .i64 0] 30 (0, 0)) (by (with_reducible repeat (first | refine blk_drewN ?_ _ | refine blk_drew ?_ | refine blk_alloc ?_ _)); exact BK4.out) hb); have n5_ := Aside0.mk (blk_below (g := g6) (o := .cells #[.int .i64 (ba : Int), .int .i64 (bb : Int)] 30 (0, 0)) (by (with_reducible repeat (first | refine blk_drewN ?_ _ | refine blk_drew ?_ | refine blk_alloc ?_ _)); exact BK6.out) hb); clear HB HQ BK2 BK3 BK4 BK6; have HB := n0_; have HQ := n1_; have BK2 := n2_; have BK3 := n3_; have BK4 := n4_; have BK6 := n5_; clear n0_ n1_ n2_ n3_ n4_ n5_; clear hb; have h2_0_w11 : w11.cell? ⟨g2, 0, none⟩ = some (.slice A0 l0.length c0) := (blk_cell BK2.out 0).trans rfl; have f2_0_w11 : w11.frozen? ⟨g2, 0, none⟩ = false := blk_frozen BK2.out 0; have h3_0_w11 : w11.cell? ⟨g3, 0, none⟩ = some (.int .i64 a1) := (blk_cell BK3.out 0).trans rfl; have f3_0_w11 : w11.frozen? ⟨g3, 0, none⟩ = false := blk_frozen BK3.out 0; have h4_0_w11 : w11.cell? ⟨g4, 0, none⟩ = some (.int .i64 0) := (blk_cell BK4.out 0).trans rfl; have f4_0_w11 : w11.frozen? ⟨g4, 0, none⟩ = false := blk_frozen BK4.out 0; have h4_1_w11 : w11.cell? ⟨g4, 1, none⟩ = some (.int .i64 0) := (blk_cell BK4.out 1).trans rfl; have f4_1_w11 : w11.frozen? ⟨g4, 1, none⟩ = false := blk_frozen BK4.out 1; have h6_0_w11 : w11.cell? ⟨g6, 0, none⟩ = some (.int .i64 (ba : Int)) := (blk_cell BK6.out 0).trans rfl; have f6_0_w11 : w11.frozen? ⟨g6, 0, none⟩ = false := blk_frozen BK6.out 0; have h6_1_w11 : w11.cell? ⟨g6, 1, none⟩ = some (.int .i64 (bb : Int)) := (blk_cell BK6.out 1).trans rfl; have f6_1_w11 : w11.frozen? ⟨g6, 1, none⟩ = false := blk_frozen BK6.out 1; clear hbox hg; have h8_0_w11 : w11.cell? ⟨g8, 0, none⟩ = some (.int .i64 0) := (blk_cell BK8.out 0).trans rfl; have f8_0_w11 : w11.frozen? ⟨g8, 0, none⟩ = false := blk_frozen BK8.out 0; have h8_1_w11 : w11.cell? ⟨g8, 1, none⟩ = some (.int .i64 0) := (blk_cell BK8.out 1).trans rfl; have f8_1_w11 : w11.frozen? ⟨g8, 1, none⟩ = false := blk_frozen BK8.out 1; have hnb28 := NB2_8.out; have hnc28 := Ne.symm NB2_8.out; have hnb38 := NB3_8.out; have hnc38 := Ne.symm NB3_8.out; have hnb48 := NB4_8.out; have hnc48 := Ne.symm NB4_8.out; have hnb68 := NB6_8.out; have hnc68 := Ne.symm NB6_8.out) | ((with_reducible refine gate_store (t := 30) (p := 8) rfl ?_); refine store_event (t := 30) (p := 8) (v := ?vo_w12) (w1 := ((w11.setCell ⟨g8, 0, none⟩ (.int .i64 (sa : Int))).setCell ⟨g8, 1, none⟩ (.int .i64 (sb : Int)))) ?hg ?ho ?hn ?hr ?_; (case ho => rfl); (case hg => rfl); (case hn => rfl); (case hr => first | (go_simp; done) | (go_simp; rfl)); intro w12 hw; have n0_ := Aside0.mk (show Below w.heap.size w w12 by rw [hw]; exact (below_set (below_set HB.out GE8.out) GE8.out)); have n1_ := Aside0.mk (show wr.grownBy w12 (some g6) by rw [hw]; exact (Go.Proofs.YtedpdfmaccoinaaDoor.Mem.grown_set (Go.Proofs.YtedpdfmaccoinaaDoor.Mem.grown_set HQ.out GR8.out _ _) GR8.out _ _)); have n2_ := Aside0.mk (show w12.heap[g8]? = some (.cells #[.int .i64 (sa : Int), .int .i64 (sb : Int)] 30 (0, 0)) by rw [hw]; exact (blk_put (cs' := #[.int .i64 (sa : Int), .int .i64 (sb : Int)]) (blk_put (cs' := #[.int .i64 (sa : Int), .int .i64 0]) BK8.out 0 _ rfl) 1 _ rfl)); have n3_ := Aside0.mk (show w12.heap[g2]? = some (.cells #[.slice A0 l0.length c0] 22 (0, 0)) by rw [hw]; exact (blk_far (blk_far BK2.out NB2_8.out _) NB2_8.out _)); have n4_ := Aside0.mk (show w12.heap[g3]? = some (.cells #[.int .i64 a1] 3 (0, 0)) by rw [hw]; exact (blk_far (blk_far BK3.out NB3_8.out _) NB3_8.out _)); have n5_ := Aside0.mk (show w12.heap[g4]? = some (.cells #[.int .i64 0, .int .i64 0] 30 (0, 0)) by rw [hw]; exact (blk_far (blk_far BK4.out NB4_8.out _) NB4_8.out _)); have n6_ := Aside0.mk (show w12.heap[g6]? = some (.cells #[.int .i64 (ba : Int), .int .i64 (bb : Int)] 30 (0, 0)) by rw [hw]; exact (blk_far (blk_far BK6.out NB6_8.out _) NB6_8.out _)); clear HB HQ BK8 BK2 BK3 BK4 BK6; have HB := n0_; have HQ := n1_; have BK8 := n2_; have BK2 := n3_; have BK3 := n4_; have BK4 := n5_; have BK6 := n6_; clear n0_ n1_ n2_ n3_ n4_ n5_ n6_; clear hw; have h8_0_w12 : w12.cell? ⟨g8, 0, none⟩ = some (.int .i64 (sa : Int)) := (blk_cell BK8.out 0).trans rfl; have f8_0_w12 : w12.frozen? ⟨g8, 0, none⟩ = false := blk_frozen BK8.out 0; have h8_1_w12 : w12.cell? ⟨g8, 1, none⟩ = some (.int .i64 (sb : Int)) := (blk_cell BK8.out 1).trans rfl; have f8_1_w12 : w12.frozen? ⟨g8, 1, none⟩ = false := blk_frozen BK8.out 1; have h2_0_w12 : w12.cell? ⟨g2, 0, none⟩ = some (.slice A0 l0.length c0) := (blk_cell BK2.out 0).trans rfl; have f2_0_w12 : w12.frozen? ⟨g2, 0, none⟩ = false := blk_frozen BK2.out 0; have h3_0_w12 : w12.cell? ⟨g3, 0, none⟩ = some (.int .i64 a1) := (blk_cell BK3.out 0).trans rfl; have f3_0_w12 : w12.frozen? ⟨g3, 0, none⟩ = false := blk_frozen BK3.out 0; have h4_0_w12 : w12.cell? ⟨g4, 0, none⟩ = some (.int .i64 0) := (blk_cell BK4.out 0).trans rfl; have f4_0_w12 : w12.frozen? ⟨g4, 0, none⟩ = false := blk_frozen BK4.out 0; have h4_1_w12 : w12.cell? ⟨g4, 1, none⟩ = some (.int .i64 0) := (blk_cell BK4.out 1).trans rfl; have f4_1_w12 : w12.frozen? ⟨g4, 1, none⟩ = false := blk_frozen BK4.out 1; have h6_0_w12 : w12.cell? ⟨g6, 0, none⟩ = some (.int .i64 (ba : Int)) := (blk_cell BK6.out 0).trans rfl; have f6_0_w12 : w12.frozen? ⟨g6, 0, none⟩ = false := blk_frozen BK6.out 0; have h6_1_w12 : w12.cell? ⟨g6, 1, none⟩ = some (.int .i64 (bb : Int)) := (blk_cell BK6.out 1).trans rfl; have f6_1_w12 : w12.frozen? ⟨g6, 1, none⟩ = false := blk_frozen BK6.out 1))
            go_region_law (first | (((have tk_ := TOKA); clear tk_ TOKA; go_simp; go_at_call 42; refine (impl_Bar_squares.calls _ _ _ _ HSQ8.out).mono ?_; rintro e w13 ⟨rfl, hb⟩; have n0_ := Aside0.mk (below_step (by repeat (first | (with_reducible first | exact HB.out | apply below_alloc | apply pw_below_drewN | apply below_drew1) | exact HB.out) : Below w.heap.size w _) hb); have n1_ := Aside0.mk (Go.Proofs.YtedpdfmaccoinaaDoor.Mem.grown_trans (by repeat (first | (with_reducible first | exact HQ.out | refine gr_alloc ?_ _ | refine gr_drewN ?_ _ | refine gr_drew ?_) | exact HQ.out) : wr.grownBy _ (some g6)) (Go.Proofs.YtedpdfmaccoinaaDoor.Mem.grown_below hb (some g6))); have n2_ := Aside0.mk (blk_below (g := g2) (o := .cells #[.slice A0 l0.length c0] 22 (0, 0)) (by (with_reducible repeat (first | refine blk_drewN ?_ _ | refine blk_drew ?_ | refine blk_alloc ?_ _)); exact BK2.out) hb); have n3_ := Aside0.mk (blk_below (g := g3) (o := .cells #[.int .i64 a1] 3 (0, 0)) (by (with_reducible repeat (first | refine blk_drewN ?_ _ | refine blk_drew ?_ | refine blk_alloc ?_ _)); exact BK3.out) hb); have n4_ := Aside0.mk (blk_below (g := g4) (o := .cells #[.int .i64 0, .int .i64 0] 30 (0, 0)) (by (with_reducible repeat (first | refine blk_drewN ?_ _ | refine blk_drew ?_ | refine blk_alloc ?_ _)); exact BK4.out) hb); have n5_ := Aside0.mk (blk_below (g := g6) (o := .cells #[.int .i64 (ba : Int), .int .i64 (bb : Int)] 30 (0, 0)) (by (with_reducible repeat (first | refine blk_drewN ?_ _ | refine blk_drew ?_ | refine blk_alloc ?_ _)); exact BK6.out) hb); have n6_ := Aside0.mk (blk_below (g := g8) (o := .cells #[.int .i64 (sa : Int), .int .i64 (sb : Int)] 30 (0, 0)) (by (with_reducible repeat (first | refine blk_drewN ?_ _ | refine blk_drew ?_ | refine blk_alloc ?_ _)); exact BK8.out) hb); clear HB HQ BK2 BK3 BK4 BK6 BK8; have HB := n0_; have HQ := n1_; have BK2 := n2_; have BK3 := n3_; have BK4 := n4_; have BK6 := n5_; have BK8 := n6_; clear n0_ n1_ n2_ n3_ n4_ n5_ n6_; clear hb; have h2_0_w13 : w13.cell? ⟨g2, 0, none⟩ = some (.slice A0 l0.length c0) := (blk_cell BK2.out 0).trans rfl; have f2_0_w13 : w13.frozen? ⟨g2, 0, none⟩ = false := blk_frozen BK2.out 0; have h3_0_w13 : w13.cell? ⟨g3, 0, none⟩ = some (.int .i64 a1) := (blk_cell BK3.out 0).trans rfl; have f3_0_w13 : w13.frozen? ⟨g3, 0, none⟩ = false := blk_frozen BK3.out 0; have h4_0_w13 : w13.cell? ⟨g4, 0, none⟩ = some (.int .i64 0) := (blk_cell BK4.out 0).trans rfl; have f4_0_w13 : w13.frozen? ⟨g4, 0, none⟩ = false := blk_frozen BK4.out 0; have h4_1_w13 : w13.cell? ⟨g4, 1, none⟩ = some (.int .i64 0) := (blk_cell BK4.out 1).trans rfl; have f4_1_w13 : w13.frozen? ⟨g4, 1, none⟩ = false := blk_frozen BK4.out 1; have h6_0_w13 : w13.cell? ⟨g6, 0, none⟩ = some (.int .i64 (ba : Int)) := (blk_cell BK6.out 0).trans rfl; have f6_0_w13 : w13.frozen? ⟨g6, 0, none⟩ = false := blk_frozen BK6.out 0; have h6_1_w13 : w13.cell? ⟨g6, 1, none⟩ = some (.int .i64 (bb : Int)) := (blk_cell BK6.out 1).trans rfl; have f6_1_w13 : w13.frozen? ⟨g6, 1, none⟩ = false := blk_frozen BK6.out 1; have h8_0_w13 : w13.cell? ⟨g8, 0, none⟩ = some (.int .i64 (sa : Int)) := (blk_cell BK8.out 0).trans rfl; have f8_0_w13 : w13.frozen? ⟨g8, 0, none⟩ = false := blk_frozen BK8.out 0; have h8_1_w13 : w13.cell? ⟨g8, 1, none⟩ = some (.int .i64 (sb : Int)) := (blk_cell BK8.out 1).trans rfl; have f8_1_w13 : w13.frozen? ⟨g8, 1, none⟩ = false := blk_frozen BK8.out 1)) | ((go_simp; go_at_call 42; refine (impl_Bar_squares.calls _ _ _ _ HSQ6.out).mono ?_; rintro e w14 ⟨rfl, hb⟩; have n0_ := Aside0.mk (below_step (by repeat (first | (with_reducible first | exact HB.out | apply below_alloc | apply pw_below_drewN | apply below_drew1) | exact HB.out) : Below w.heap.size w _) hb); have n1_ := Aside0.mk (Go.Proofs.YtedpdfmaccoinaaDoor.Mem.grown_trans (by repeat (first | (with_reducible first | exact HQ.out | refine gr_alloc ?_ _ | refine gr_drewN ?_ _ | refine gr_drew ?_) | exact HQ.out) : wr.grownBy _ (some g6)) (Go.Proofs.YtedpdfmaccoinaaDoor.Mem.grown_below hb (some g6))); have n2_ := Aside0.mk (blk_below (g := g2) (o := .cells #[.slice A0 l0.length c0] 22 (0, 0)) (by (with_reducible repeat (first | refine blk_drewN ?_ _ | refine blk_drew ?_ | refine blk_alloc ?_ _)); exact BK2.out) hb); have n3_ := Aside0.mk (blk_below (g := g3) (o := .cells #[.int .i64 a1] 3 (0, 0)) (by (with_reducible repeat (first | refine blk_drewN ?_ _ | refine blk_drew ?_ | refine blk_alloc ?_ _)); exact BK3.out) hb); have n4_ := Aside0.mk (blk_below (g := g4) (o := .cells #[.int .i64 0, .int .i64 0] 30 (0, 0)) (by (with_reducible repeat (first | refine blk_drewN ?_ _ | refine blk_drew ?_ | refine blk_alloc ?_ _)); exact BK4.out) hb); have n5_ := Aside0.mk (blk_below (g := g6) (o := .cells #[.int .i64 (ba : Int), .int .i64 (bb : Int)] 30 (0, 0)) (by (with_reducible repeat (first | refine blk_drewN ?_ _ | refine blk_drew ?_ | refine blk_alloc ?_ _)); exact BK6.out) hb); have n6_ := Aside0.mk (blk_below (g := g8) (o := .cells #[.int .i64 (sa : Int), .int .i64 (sb : Int)] 30 (0, 0)) (by (with_reducible repeat (first | refine blk_drewN ?_ _ | refine blk_drew ?_ | refine blk_alloc ?_ _)); exact BK8.out) hb); clear HB HQ BK2 BK3 BK4 BK6 BK8; have HB := n0_; have HQ := n1_; have BK2 := n2_; have BK3 := n3_; have BK4 := n4_; have BK6 := n5_; have BK8 := n6_; clear n0_ n1_ n2_ n3_ n4_ n5_ n6_; clear hb; have h2_0_w14 : w14.cell? ⟨g2, 0, none⟩ = some (.slice A0 l0.length c0) := (blk_cell BK2.out 0).trans rfl; have f2_0_w14 : w14.frozen? ⟨g2, 0, none⟩ = false := blk_frozen BK2.out 0; have h3_0_w14 : w14.cell? ⟨g3, 0, none⟩ = some (.int .i64 a1) := (blk_cell BK3.out 0).trans rfl; have f3_0_w14 : w14.frozen? ⟨g3, 0, none⟩ = false := blk_frozen BK3.out 0; have h4_0_w14 : w14.cell? ⟨g4, 0, none⟩ = some (.int .i64 0) := (blk_cell BK4.out 0).trans rfl; have f4_0_w14 : w14.frozen? ⟨g4, 0, none⟩ = false := blk_frozen BK4.out 0; have h4_1_w14 : w14.cell? ⟨g4, 1, none⟩ = some (.int .i64 0) := (blk_cell BK4.out 1).trans rfl; have f4_1_w14 : w14.frozen? ⟨g4, 1, none⟩ = false := blk_frozen BK4.out 1; have h6_0_w14 : w14.cell? ⟨g6, 0, none⟩ = some (.int .i64 (ba : Int)) := (blk_cell BK6.out 0).trans rfl; have f6_0_w14 : w14.frozen? ⟨g6, 0, none⟩ = false := blk_frozen BK6.out 0; have h6_1_w14 : w14.cell? ⟨g6, 1, none⟩ = some (.int .i64 (bb : Int)) := (blk_cell BK6.out 1).trans rfl; have f6_1_w14 : w14.frozen? ⟨g6, 1, none⟩ = false := blk_frozen BK6.out 1; have h8_0_w14 : w14.cell? ⟨g8, 0, none⟩ = some (.int .i64 (sa : Int)) := (blk_cell BK8.out 0).trans rfl; have f8_0_w14 : w14.frozen? ⟨g8, 0, none⟩ = false := blk_frozen BK8.out 0; have h8_1_w14 : w14.cell? ⟨g8, 1, none⟩ = some (.int .i64 (sb : Int)) := (blk_cell BK8.out 1).trans rfl; have f8_1_w14 : w14.frozen? ⟨g8, 1, none⟩ = false := blk_frozen BK8.out 1)))
            all_goals go_wp2
            all_goals go_roundg (ss.length - (n + 1))
            all_goals first | (have := HQQ.out; omega) | (refine ⟨n + 1, by go_num, ⟨HLT.out⟩, ⟨Nat.le_refl _⟩, HB, BK2, BK3, BK4, ⟨?_⟩, ⟨Kd.R_mono (Kd.R_step (Kd.R_bound HOr.out) (fun k hk hlt => HQ.out.block k hlt (fun e => by have := hk.2.1; have := G6B.out; have := Option.some.inj e; omega))) (fun _ h => h.1)⟩⟩; rw [HNEW.out]; exact BK6.out)
        · have d0 : decide ((n : Int) < (ss.length : Int)) = false := decide_eq_false (by omega)
          have d00 : decide (n < ss.length) = false := decide_eq_false hlt
          obtain rfl : n = ss.length := by have := hn.out; omega
          have HF2 := HF.out
          rw [HBB.out] at HF2
          obtain ⟨hf1, hf2, hf3⟩ := HF2
          simp only at hf1 hf2 hf3
          subst hf1 hf2
          have e3 : decide (0 < ((ba * bb : Nat) : Int)) = r3 := by rw [← hf3]; congr 1; exact propext (by omega)
          have E3 := Aside0.mk e3
          clear HF hf3 e3 hsuc hbd
          generalize ((ba * bb : Nat) : Int) = v6 at E3 HSQ6
          have HQ := Aside0.mk (World.grownBy.refl wr (some g6))
          go_wp2
          go_region_held3 (fun w' => w'.cell? ⟨g6, 0, none⟩ = some (.int .i64 (ba : Int)) ∧ w'.cell? ⟨g6, 1, none⟩ = some (.int .i64 (bb : Int))) (first | exact ⟨(blk_cell (by (with_reducible repeat (first | refine blk_far ?_ (Ne.symm NB4_6.out) _ | refine blk_drewN ?_ _ | refine blk_drew ?_ | refine blk_alloc ?_ _)); exact BK6.out) 0).trans rfl, (blk_cell (by (with_reducible repeat (first | refine blk_far ?_ (Ne.symm NB4_6.out) _ | refine blk_drewN ?_ _ | refine blk_drew ?_ | refine blk_alloc ?_ _)); exact BK6.out) 1).trans rfl⟩ | exact ⟨(blk_cell (g := g6) (blk_far (p := ⟨g4, 1, none⟩) (blk_far (p := ⟨g4, 0, none⟩) BK6.out (Ne.symm NB4_6.out) _) (Ne.symm NB4_6.out) _) 0).trans rfl, (blk_cell (g := g6) (blk_far (p := ⟨g4, 1, none⟩) (blk_far (p := ⟨g4, 0, none⟩) BK6.out (Ne.symm NB4_6.out) _) (Ne.symm NB4_6.out) _) 1).trans rfl⟩) (first | ((go_at_call 42; refine (impl_Bar_squares.calls _ _ _ _ HSQ6.out).mono ?_; rintro e w18 ⟨rfl, hb⟩; have n0_ := Aside0.mk (below_step (by repeat (first | (with_reducible first | exact HB.out | apply below_alloc | apply pw_below_drewN | apply below_drew1) | exact HB.out) : Below w.heap.size w _) hb); have n1_ := Aside0.mk (Go.Proofs.YtedpdfmaccoinaaDoor.Mem.grown_trans (by repeat (first | (with_reducible first | exact HQ.out | refine gr_alloc ?_ _ | refine gr_drewN ?_ _ | refine gr_drew ?_) | exact HQ.out) : wr.grownBy _ (some g6)) (Go.Proofs.YtedpdfmaccoinaaDoor.Mem.grown_below hb (some g6))); have n2_ := Aside0.mk (blk_below (g := g2) (o := .cells #[.slice A0 l0.length c0] 22 (0, 0)) (by (with_reducible repeat (first | refine blk_drewN ?_ _ | refine blk_drew ?_ | refine blk_alloc ?_ _)); exact BK2.out) hb); have n3_ := Aside0.mk (blk_below (g := g3) (o := .cells #[.int .i64 a1] 3 (0, 0)) (by (with_reducible repeat (first | refine blk_drewN ?_ _ | refine blk_drew ?_ | refine blk_alloc ?_ _)); exact BK3.out) hb); have n4_ := Aside0.mk (blk_below (g := g4) (o := .cells #[.int .i64 0, .int .i64 0] 30 (0, 0)) (by (with_reducible repeat (first | refine blk_drewN ?_ _ | refine blk_drew ?_ | refine blk_alloc ?_ _)); exact BK4.out) hb); have n5_ := Aside0.mk (blk_below (g := g6) (o := .cells #[.int .i64 (ba : Int), .int .i64 (bb : Int)] 30 (0, 0)) (by (with_reducible repeat (first | refine blk_drewN ?_ _ | refine blk_drew ?_ | refine blk_alloc ?_ _)); exact BK6.out) hb); clear HB HQ BK2 BK3 BK4 BK6; have HB := n0_; have HQ := n1_; have BK2 := n2_; have BK3 := n3_; have BK4 := n4_; have BK6 := n5_; clear n0_ n1_ n2_ n3_ n4_ n5_; clear hb; have h2_0_w18 : w18.cell? ⟨g2, 0, none⟩ = some (.slice A0 l0.length c0) := (blk_cell BK2.out 0).trans rfl; have f2_0_w18 : w18.frozen? ⟨g2, 0, none⟩ = false := blk_frozen BK2.out 0; have h3_0_w18 : w18.cell? ⟨g3, 0, none⟩ = some (.int .i64 a1) := (blk_cell BK3.out 0).trans rfl; have f3_0_w18 : w18.frozen? ⟨g3, 0, none⟩ = false := blk_frozen BK3.out 0; have h4_0_w18 : w18.cell? ⟨g4, 0, none⟩ = some (.int .i64 0) := (blk_cell BK4.out 0).trans rfl; have f4_0_w18 : w18.frozen? ⟨g4, 0, none⟩ = false := blk_frozen BK4.out 0; have h4_1_w18 : w18.cell? ⟨g4, 1, none⟩ = some (.int .i64 0) := (blk_cell BK4.out 1).trans rfl; have f4_1_w18 : w18.frozen? ⟨g4, 1, none⟩ = false := blk_frozen BK4.out 1; have h6_0_w18 : w18.cell? ⟨g6, 0, none⟩ = some (.int .i64 (ba : Int)) := (blk_cell BK6.out 0).trans rfl; have f6_0_w18 : w18.frozen? ⟨g6, 0, none⟩ = false := blk_frozen BK6.out 0; have h6_1_w18 : w18.cell? ⟨g6, 1, none⟩ = some (.int .i64 (bb : Int)) := (blk_cell BK6.out 1).trans rfl; have f6_1_w18 : w18.frozen? ⟨g6, 1, none⟩ = false := blk_frozen BK6.out 1)))
          go_wp2
          refine bodyPost_ret (results_ct rfl _ _ g4 30 #[.int .i64 (ba : Int), .int .i64 (bb : Int)] (0, 0) _ rfl (by refine blk_put (cs := #[.int .i64 (ba : Int), .int .i64 0]) ?_ 1 _ rfl; refine blk_put (cs := #[.int .i64 0, .int .i64 0]) ?_ 0 _ rfl; exact BK4.out) Tryd.underlying30 rfl (by kernel_rfl)) rfl ?_
          exact ⟨by rw [← E3.out]; rfl, below_set (below_set HB.out GE4.out) GE4.out⟩
end Go.Proofs.YtedpdfmaccoinaaDoor.P
