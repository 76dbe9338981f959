/- Small facts on numbers: the wrap of what fits; the tests of bounds. | Lists of texts: measured, copied, compared with themselves. Condition: a list shorter than any machine's memory. | Which lists of texts are nuts: the program's way and the reference's say the same. Condition: a list shorter than any machine's memory. | How many nuts are in a part: the program's sum and the reference's are one. Conditions: nuts, a part inside. | One break of a bar with nuts: how far apart the two parts are, in the program and in the reference. Conditions: nuts, a break inside. | A map that a call keeps as its memory: what a look-up and a store do to it. Conditions: the keys are among a list; the map's key type is one of Go's. | Parts of a bar and the breaks of a part, in plain numbers; what the program's own functions on them come to. Conditions: a part inside a bar with nuts. | The keys of the memories: a part, and a part with a number, as the map reads them. Conditions: the numbers fit their kind. | impl.PoorestPiece's literal: what the call comes to. Conditions: nuts; a part inside; one to five sharers. | impl.PoorestPiece: what the call comes to. Conditions: as it states. -/
import Derived.Test.YtedpdfmaccoinaaDoorPx2
import Derived.Test.YtedpdfmaccoinaaDoorPx8
import Derived.Test.YtedpdfmaccoinaaDoorPx7
import Derived.Test.YtedpdfmaccoinaaDoorPx17
import Derived.Test.YtedpdfmaccoinaaDoorPx1
import Derived.Test.YtedpdfmaccoinaaDoorPx3
import Derived.Test.YtedpdfmaccoinaaDoorOAreNuts
import Derived.Test.YtedpdfmaccoinaaDoorPx4
import Derived.Test.YtedpdfmaccoinaaDoorPx15
import Derived.Test.YtedpdfmaccoinaaDoorPx28
import Derived.Test.YtedpdfmaccoinaaDoorPx34
import Derived.Test.YtedpdfmaccoinaaDoorPx31
import Derived.Test.YtedpdfmaccoinaaDoorWMore
import Derived.Maps.OwnSet
import Derived.DeepKeys4
import Derived.MapViews
import Derived.Test.YtedpdfmaccoinaaDoorPx20
import Derived.Test.YtedpdfmaccoinaaDoorPx30
import Derived.Deep.RegionHeld3
import Derived.Deep.DrawnRows
import Derived.BigRegion
import Derived.Lib.Hide
import Derived.Laws.EntriesVeiled
namespace Go.Proofs.YtedpdfmaccoinaaDoor.Pure
open Go.RowKit Go.Proofs.YtedpdfmaccoinaaDoor.P Go.Proofs.YtedpdfmaccoinaaDoorW.PrintWords Go.Proofs.YtedpdfmaccoinaaDoorW.PrintLast
theorem w64 {x : Int} (h0 : -9223372036854775808 ≤ x) (h1 : x ≤ 9223372036854775807) : wrap64 x = x := by
  unfold wrap64
  omega
theorem wf64 {x : Int} (h : (Lit.int .i64 x).wf = true) : -9223372036854775808 ≤ x ∧ x ≤ 9223372036854775807 := by
  simp [Lit.wf, IntKind.min, IntKind.max, IntKind.signed, IntKind.bits] at h
  omega
theorem l1In_some (a lo hi : Int) : spec_l1In.f a lo hi = some (decide (lo ≤ a ∧ a ≤ hi)) := by
  unfold spec_l1In.f
  by_cases h : a ≥ lo
  · rw [if_pos h]
    simp [show lo ≤ a from h]
  · rw [if_neg h]
    simp [show ¬ lo ≤ a from h]
theorem within_some (a lo hi : Int) : impl_within.f a lo hi = some (decide (lo ≤ a ∧ a ≤ hi)) := by
  unfold impl_within.f
  by_cases h : lo ≤ a
  · rw [if_pos h]
    simp [h]
  · rw [if_neg h]
    simp [h]
theorem rd_get (l : List Int) (i : Nat) (v : Int) (h : l[i]? = some v) : rd l (i : Int) = v := by
  unfold rd
  simp [h]
theorem rd_lt (l : List Int) (i : Nat) (h : i < l.length) : rd l (i : Int) = l[i] := rd_get l i _ (List.getElem?_eq_getElem h)
/-- A value that is there already, handed on (the rest stays folded). -/
theorem ev_val {α β : Type} {o : Option α} {a : α} {f : Nat → α → Option β} {r : β} (h : o = some a) (k : Ev (fun n => f n a) r) : Ev (fun n => o.bind (f n)) r := by
  subst h
  exact k
theorem ev_if_pos {β : Type} {c : Prop} [Decidable c] {f g : Nat → Option β} {r : β} (h : c) (k : Ev f r) : Ev (fun n => if c then f n else g n) r := by
  simp only [if_pos h]
  exact k
theorem ev_if_neg {β : Type} {c : Prop} [Decidable c] {f g : Nat → Option β} {r : β} (h : ¬ c) (k : Ev g r) : Ev (fun n => if c then f n else g n) r := by
  simp only [if_neg h]
  exact k
end Go.Proofs.YtedpdfmaccoinaaDoor.Pure
namespace Go.Proofs.YtedpdfmaccoinaaDoor.Pure
open Go.RowKit Go.Proofs.YtedpdfmaccoinaaDoor.P Go.Proofs.YtedpdfmaccoinaaDoorW.PrintWords Go.Proofs.YtedpdfmaccoinaaDoorW.PrintLast
theorem rs_get (l : List ByteArray) (i : Nat) (v : ByteArray) (h : l[i]? = some v) : rdOf ByteArray.empty l (i : Int) = v := by
  unfold rdOf
  simp [h]
theorem rs_lt (l : List ByteArray) (i : Nat) (h : i < l.length) : rdOf ByteArray.empty l (i : Int) = l[i] := rs_get l i _ (List.getElem?_eq_getElem h)
def sizes (l : List ByteArray) : Nat := (l.map fun s => s.size).sum
theorem sz_l0 (l : List ByteArray) (hm : l.length ≤ 1048576) (hs : ∀ s ∈ l, s.size ≤ 140737488351232) : ∀ (d i : Nat) (c : Int), i + d = l.length → 0 ≤ c → c ≤ 1048576 → ∃ t, Ev (fun k => laws_szStringS.l0 k l c (i : Int)) t ∧ (0 ≤ t → (sizes (l.drop i) : Int) ≤ c) := by
  intro d
  induction d with
  | zero =>
    intro i c hi hc0 hc
    refine ⟨c, Ev.step (f := fun _ => some c) (fun k => by simp only [laws_szStringS.l0]; rw [if_neg (by omega)]) (Ev.now _), fun _ => ?_⟩
    rw [List.drop_of_length_le (by omega)]
    simp [sizes]
    exact hc0
  | succ d ih =>
    intro i c hi hc0 hc
    have hlt : i < l.length := by omega
    have hsi := hs l[i] (List.getElem_mem hlt)
    have w1 : wrap64 (c - (l[i].size : Int)) = c - (l[i].size : Int) := w64 (by omega) (by omega)
    by_cases h : c - (l[i].size : Int) < 0
    · refine ⟨-1, Ev.step (f := fun _ => some (-1)) (fun k => ?_) (Ev.now _), fun h => by omega⟩
      simp only [laws_szStringS.l0, rs_lt l i hlt, w1]
      rw [if_pos (by omega), if_pos (by omega), if_pos h]
    · obtain ⟨t, s, ht⟩ := ih (i + 1) (c - (l[i].size : Int)) (by omega) (by omega) (by omega)
      refine ⟨t, Ev.step (fun k => ?_) s, fun h0 => ?_⟩
      · simp only [laws_szStringS.l0, rs_lt l i hlt, w1]
        rw [if_pos (by omega), if_pos (by omega), if_neg h, w64 (x := (i : Int) + 1) (by omega) (by omega)]
        rfl
      · have := ht h0
        rw [List.drop_eq_getElem_cons hlt]
        have e : sizes (l[i] :: l.drop (i + 1)) = l[i].size + sizes (l.drop (i + 1)) := rfl
        rw [e]
        omega
theorem sz_ev (l : List ByteArray) (hm : l.length ≤ maxLen) (hs : ∀ s ∈ l, s.size ≤ 140737488351232) : ∃ t, Ev (fun k => laws_szStringS.f k l 1048576) t ∧ (0 ≤ t → l.length ≤ 1048576 ∧ sizes l ≤ 1048576) := by
  unfold maxLen at hm
  have w1 : wrap64 (1048576 - (l.length : Int)) = 1048576 - (l.length : Int) := w64 (by omega) (by omega)
  unfold laws_szStringS.f
  simp only [w1]
  by_cases h : 1048576 - (l.length : Int) < 0
  · refine ⟨-1, ?_, fun h => by omega⟩
    simp only [if_pos h]
    exact Ev.now _
  · obtain ⟨t, s, ht⟩ := sz_l0 l (by omega) hs l.length 0 (1048576 - (l.length : Int)) (by omega) (by omega) (by omega)
    refine ⟨t, ?_, fun h0 => ⟨by omega, ?_⟩⟩
    · simp only [if_neg h]
      exact s
    · have := ht h0
      rw [List.drop_zero] at this
      omega
theorem toStringS_l0 (l : List ByteArray) (hn : l.length ≤ 1048576) : ∀ (d i : Nat) (o : List ByteArray), i + d = l.length → o.length = l.length → (∀ j, j < i → o[j]? = l[j]?) → ∀ k, d < k →
    laws_toStringS.l0 k l o (i : Int) = some l := by
  intro d
  induction d with
  | zero =>
    intro i o hi ho h k hk
    obtain ⟨m, rfl⟩ : ∃ m, k = m + 1 := ⟨k - 1, by omega⟩
    simp only [laws_toStringS.l0]
    rw [if_neg (by omega)]
    congr 1
    apply List.ext_getElem?
    intro j
    by_cases hj : j < i
    · exact h j hj
    · rw [List.getElem?_eq_none (by omega), List.getElem?_eq_none (by omega)]
  | succ d ih =>
    intro i o hi ho h k hk
    obtain ⟨m, rfl⟩ : ∃ m, k = m + 1 := ⟨k - 1, by omega⟩
    simp only [laws_toStringS.l0, Int.toNat_natCast]
    rw [if_pos (by omega), if_pos (by omega), if_pos (by omega), w64 (by omega) (by omega), rs_lt l i (by omega)]
    refine ih (i + 1) _ (by omega) (by rw [List.length_set]; omega) (fun j hj => ?_) m (by omega)
    by_cases hji : j = i
    · subst hji
      rw [List.getElem?_set_self (by omega), List.getElem?_eq_getElem (by omega)]
    · rw [List.getElem?_set_ne (by omega)]
      exact h j (by omega)
theorem toStringS_ev (l : List ByteArray) (hn : l.length ≤ 1048576) : Ev (fun k => laws_toStringS.f k l) l := by
  refine ⟨l.length + 1, fun k hk => ?_⟩
  show laws_toStringS.f k l = _
  unfold laws_toStringS.f
  rw [if_pos (by omega), if_pos (by rw [Int.toNat_natCast]; omega)]
  exact toStringS_l0 l hn l.length 0 _ (by omega) (by simp) (fun j hj => by omega) k (by omega)
theorem eqStringS_l0 (l : List ByteArray) (hn : l.length ≤ 1000000000000) : ∀ (d i : Nat), i + d = l.length → ∀ k, d < k → laws_eqStringS.l0 k l l (i : Int) = some true := by
  intro d
  induction d with
  | zero =>
    intro i hi k hk
    obtain ⟨m, rfl⟩ : ∃ m, k = m + 1 := ⟨k - 1, by omega⟩
    simp only [laws_eqStringS.l0]
    rw [if_neg (by omega)]
  | succ d ih =>
    intro i hi k hk
    obtain ⟨m, rfl⟩ : ∃ m, k = m + 1 := ⟨k - 1, by omega⟩
    simp only [laws_eqStringS.l0]
    rw [if_pos (by omega), if_pos (by omega), if_pos (by omega)]
    simp only [if_true]
    rw [w64 (by omega) (by omega)]
    exact ih (i + 1) (by omega) m (by omega)
theorem eqStringS_refl (l : List ByteArray) (hn : l.length ≤ 1000000000000) : Ev (fun k => laws_eqStringS.f k l l) true := by
  refine ⟨l.length + 1, fun k hk => ?_⟩
  simp only [laws_eqStringS.f, if_true]
  exact eqStringS_l0 l hn l.length 0 (by omega) k (by omega)
end Go.Proofs.YtedpdfmaccoinaaDoor.Pure
namespace Go.Proofs.YtedpdfmaccoinaaDoor.Pure
open Go.RowKit Go.Proofs.YtedpdfmaccoinaaDoor.P Go.Proofs.YtedpdfmaccoinaaDoorW.PrintWords Go.Proofs.YtedpdfmaccoinaaDoorW.PrintLast
theorem digitB_iff (b : UInt8) : digitB b = decide (48 ≤ b.toNat ∧ b.toNat ≤ 57) := by
  by_cases h : 48 ≤ b.toNat ∧ b.toNat ≤ 57
  · rw [decide_eq_true h]
    have hc : b.toNat = 48 ∨ b.toNat = 49 ∨ b.toNat = 50 ∨ b.toNat = 51 ∨ b.toNat = 52 ∨ b.toNat = 53 ∨ b.toNat = 54 ∨ b.toNat = 55 ∨ b.toNat = 56 ∨ b.toNat = 57 := by omega
    rcases hc with e | e | e | e | e | e | e | e | e | e
    · rw [show b = 48 from UInt8.toNat_inj.1 e]; decide
    · rw [show b = 49 from UInt8.toNat_inj.1 e]; decide
    · rw [show b = 50 from UInt8.toNat_inj.1 e]; decide
    · rw [show b = 51 from UInt8.toNat_inj.1 e]; decide
    · rw [show b = 52 from UInt8.toNat_inj.1 e]; decide
    · rw [show b = 53 from UInt8.toNat_inj.1 e]; decide
    · rw [show b = 54 from UInt8.toNat_inj.1 e]; decide
    · rw [show b = 55 from UInt8.toNat_inj.1 e]; decide
    · rw [show b = 56 from UInt8.toNat_inj.1 e]; decide
    · rw [show b = 57 from UInt8.toNat_inj.1 e]; decide
  · rw [decide_eq_false h]
    cases hd : digitB b with
    | false => rfl
    | true =>
      exfalso
      apply h
      unfold digitB at hd
      simp only [List.contains_eq_mem, List.mem_cons, List.not_mem_nil, or_false, decide_eq_true_eq] at hd
      rcases hd with rfl | rfl | rfl | rfl | rfl | rfl | rfl | rfl | rfl | rfl <;> decide
theorem bt_lt (s : ByteArray) (i : Nat) (h : i < s.size) : bt s (i : Int) = ((s.data.toList[i]'h).toNat : Int) := by
  unfold bt
  rw [dif_pos (by simpa using h)]
  rfl
def rowOk (n : Nat) (s : ByteArray) : Bool := decide (s.size = n) && s.data.toList.all digitB

theorem ntGood_l1 (x : List ByteArray) (s : ByteArray) (hs : s.size ≤ 1048576) (L : List ByteArray) (n q : Int) (r : Bool) (next : Ev (fun k => spec_ntGood.l0 k x L n (wrap64 (q + 1))) r) :
    ∀ (d i : Nat), i + d = s.size → Ev (fun k => spec_ntGood.l1 k x s (i : Int) L n q) ((s.data.toList.drop i).all digitB && r) := by
  intro d
  have hlen : s.data.toList.length = s.size := rfl
  induction d with
  | zero =>
    intro i hi
    rw [List.drop_of_length_le (by omega)]
    refine Ev.step (fun k => ?_) next
    simp only [spec_ntGood.l1]
    rw [if_neg (by omega)]
  | succ d ih =>
    intro i hi
    have hlt : i < s.size := by omega
    rw [List.drop_eq_getElem_cons (show i < s.data.toList.length by omega), List.all_cons, digitB_iff]
    have hb := bt_lt s i hlt
    generalize (s.data.toList[i]'hlt) = b at hb
    by_cases h1 : b.toNat < 48
    · rw [decide_eq_false (by omega), Bool.false_and, Bool.false_and]
      refine Ev.step (f := fun _ => some false) (fun k => ?_) (Ev.now _)
      simp only [spec_ntGood.l1, hb]
      rw [if_pos (by omega), if_pos (by omega), if_pos (by omega)]
    · by_cases h2 : b.toNat > 57
      · rw [decide_eq_false (by omega), Bool.false_and, Bool.false_and]
        refine Ev.step (f := fun _ => some false) (fun k => ?_) (Ev.now _)
        simp only [spec_ntGood.l1, hb]
        rw [if_pos (by omega), if_pos (by omega), if_neg (by omega), if_pos (by omega)]
      · rw [decide_eq_true (by omega), Bool.true_and]
        refine Ev.step (fun k => ?_) (ih (i + 1) (by omega))
        simp only [spec_ntGood.l1, hb]
        rw [if_pos (by omega), if_pos (by omega), if_neg (by omega), if_neg (by omega), w64 (by omega) (by omega)]
        rfl

theorem ntGood_l0 (l : List ByteArray) (hn : l.length ≤ 1048576) (hs : ∀ s ∈ l, s.size ≤ 1048576) (n : Nat) (h0 : (rdOf ByteArray.empty l 0).size = n) (hp : 0 < l.length) : ∀ (d i : Nat), i + d = l.length → Ev (fun k => spec_ntGood.l0 k l l (l.length : Int) (i : Int)) ((l.drop i).all (rowOk n)) := by
  intro d
  induction d with
  | zero =>
    intro i hi
    rw [List.drop_of_length_le (by omega)]
    refine Ev.step (f := fun _ => some true) (fun k => ?_) (Ev.now _)
    simp only [spec_ntGood.l0]
    rw [if_neg (by omega)]
  | succ d ih =>
    intro i hi
    have hlt : i < l.length := by omega
    rw [List.drop_eq_getElem_cons hlt, List.all_cons]
    unfold rowOk
    by_cases h : l[i].size = n
    · rw [decide_eq_true h, Bool.true_and]
      have s := ntGood_l1 l l[i] (hs _ (List.getElem_mem hlt)) l (l.length : Int) (i : Int) ((l.drop (i + 1)).all (rowOk n)) (by rw [w64 (by omega) (by omega)]; exact ih (i + 1) (by omega)) l[i].size 0 (by omega)
      rw [List.drop_zero] at s
      refine Ev.step (fun k => ?_) s
      simp only [spec_ntGood.l0, rs_lt l i hlt, h0]
      rw [if_pos (by omega), if_pos (by omega), if_pos (by omega), if_pos (by omega), if_pos (by omega)]
      rfl
    · rw [decide_eq_false h, Bool.false_and, Bool.false_and]
      refine Ev.step (f := fun _ => some false) (fun k => ?_) (Ev.now _)
      simp only [spec_ntGood.l0, rs_lt l i hlt, h0]
      rw [if_pos (by omega), if_pos (by omega), if_pos (by omega), if_pos (by omega), if_neg (by omega)]

/-- What nuts are: so many rows, each of so many digits. -/
structure Nuts (l : List ByteArray) (w : Nat) : Prop where
  rows1 : 1 ≤ l.length
  rows8 : l.length ≤ 8
  wide1 : 1 ≤ w
  wide8 : w ≤ 8
  wide : ∀ s ∈ l, s.size = w
  digit : ∀ s ∈ l, ∀ b ∈ s.data.toList, 48 ≤ b.toNat ∧ b.toNat ≤ 57

theorem not_any_not (p : ByteArray → Bool) : ∀ l : List ByteArray, (!(l.any fun s => !p s)) = l.all p
  | [] => rfl
  | x :: l => by rw [List.any_cons, List.all_cons, Bool.not_or, Bool.not_not, not_any_not p l]

theorem nutsB_eq (l : List ByteArray) (hp : 0 < l.length) : nutsB l = (decide (1 ≤ (l.length : Int) ∧ (l.length : Int) ≤ 8) && (decide ((1 : Int) ≤ ((l[0]).size : Int) ∧ ((l[0]).size : Int) ≤ (8 : Int)) && l.all (rowOk l[0].size))) := by
  unfold nutsB
  congr 1
  rw [getElem!_pos l 0 hp]
  generalize hn : l[0].size = n
  have h1 : (!l.any (badRow (n : Int) 8)) = l.all fun s => (decide ((s.size : Int) = (n : Int)) && (decide (1 ≤ (s.size : Int) ∧ (s.size : Int) ≤ 8) && s.data.toList.all digitB)) := by
    exact not_any_not _ l
  rw [h1]
  by_cases hb : 1 ≤ (n : Int) ∧ (n : Int) ≤ 8
  · rw [decide_eq_true hb, Bool.true_and]
    have : ∀ s : ByteArray, (decide ((s.size : Int) = (n : Int)) && (decide (1 ≤ (s.size : Int) ∧ (s.size : Int) ≤ 8) && s.data.toList.all digitB)) = rowOk n s := by
      intro s
      unfold rowOk
      by_cases e : s.size = n
      · rw [decide_eq_true e, decide_eq_true (by omega), decide_eq_true (by omega), Bool.true_and]
      · rw [decide_eq_false e, decide_eq_false (by omega), Bool.false_and, Bool.false_and]
    simp only [this]
  · rw [decide_eq_false hb, Bool.false_and]
    rw [List.all_eq_false]
    refine ⟨l[0], List.getElem_mem hp, ?_⟩
    rw [hn, decide_eq_false hb]
    simp

theorem size_le_sizes : ∀ (l : List ByteArray) (s : ByteArray), s ∈ l → s.size ≤ sizes l
  | x :: l, s, h => by
    have e : sizes (x :: l) = x.size + sizes l := rfl
    rcases List.mem_cons.1 h with rfl | h
    · omega
    · have := size_le_sizes l s h
      omega
theorem good_both (l : List ByteArray) (hn : l.length ≤ 1048576) (hz : sizes l ≤ 1048576) : ∃ b : Bool, Ev (fun k => spec_ntGood.f k l) b ∧ impl_AreNuts.f l = some b ∧ (b = true → ∃ w, Nuts l w) := by
  have hs : ∀ s ∈ l, s.size ≤ 1048576 := by
    intro s hs
    have : s.size ≤ sizes l := by
      exact size_le_sizes l s hs
    omega
  have hI : impl_AreNuts.f l = some (nutsB l) := by
    unfold impl_AreNuts.f
    rw [if_pos]
    rw [List.all_eq_true]
    intro s h
    have := hs s h
    exact decide_eq_true (by omega)
  refine ⟨nutsB l, ?_, hI, ?_⟩
  · unfold spec_ntGood.f
    simp only [l1In_some, Option.bind_some]
    by_cases h : 1 ≤ (l.length : Int) ∧ (l.length : Int) ≤ 8
    · have hp : 0 < l.length := by omega
      have h0 : rdOf ByteArray.empty l 0 = l[0] := rs_lt l 0 hp
      rw [nutsB_eq l hp, decide_eq_true h, Bool.true_and]
      simp only [if_true, h0, if_pos (show 0 < (l.length : Int) by omega)]
      by_cases h2 : (1 : Int) ≤ ((l[0]).size : Int) ∧ ((l[0]).size : Int) ≤ (8 : Int)
      · rw [decide_eq_true h2, Bool.true_and]
        have s := ntGood_l0 l hn hs l[0].size (by rw [h0]) hp l.length 0 (by omega)
        rw [List.drop_zero] at s
        exact Ev.step (fun k => by simp only [spec_ntGood.j0, Bool.not_true, Bool.false_eq_true, if_false]; rfl) s
      · rw [decide_eq_false h2, Bool.false_and]
        exact Ev.step (fun k => by simp only [spec_ntGood.j0, Bool.not_false, if_true]) (Ev.now _)
    · have : nutsB l = false := by
        unfold nutsB
        rw [decide_eq_false h, Bool.false_and]
      rw [this, decide_eq_false h]
      simp only [Bool.false_eq_true, if_false]
      exact Ev.step (fun k => by simp only [spec_ntGood.j0, if_true]) (Ev.now _)
  · intro h
    have hp : 0 < l.length := by
      unfold nutsB at h
      rw [Bool.and_eq_true, decide_eq_true_eq] at h
      omega
    rw [nutsB_eq l hp] at h
    simp only [Bool.and_eq_true, decide_eq_true_eq, List.all_eq_true] at h
    obtain ⟨h1, h2, h3⟩ := h
    refine ⟨l[0].size, by omega, by omega, by omega, by omega, fun s hs' => ?_, fun s hs' b hb => ?_⟩
    · have := h3 s hs'
      unfold rowOk at this
      rw [Bool.and_eq_true, decide_eq_true_eq] at this
      exact this.1
    · have := h3 s hs'
      unfold rowOk at this
      rw [Bool.and_eq_true, List.all_eq_true] at this
      have := this.2 b hb
      rw [digitB_iff, decide_eq_true_eq] at this
      exact this
end Go.Proofs.YtedpdfmaccoinaaDoor.Pure
namespace Go.Proofs.YtedpdfmaccoinaaDoor.Pure
open Go.RowKit Go.Proofs.YtedpdfmaccoinaaDoor.P Go.Proofs.YtedpdfmaccoinaaDoorW.PrintWords Go.Proofs.YtedpdfmaccoinaaDoorW.PrintLast
def dg (s : ByteArray) (i : Nat) : Int := bt s (i : Int) - 48
def rowSum (s : ByteArray) : Nat → Nat → Int
  | _, 0 => 0
  | i, d + 1 => dg s i + rowSum s (i + 1) d
def partSum (l : List ByteArray) (x W : Nat) : Nat → Nat → Int
  | _, 0 => 0
  | j, d + 1 => rowSum (rdOf ByteArray.empty l (j : Int)) x W + partSum l x W (j + 1) d
/-- A row of digits. -/
def Digits (s : ByteArray) (w : Nat) : Prop := s.size = w ∧ w ≤ 8 ∧ ∀ i, i < w → 48 ≤ bt s (i : Int) ∧ bt s (i : Int) ≤ 57
theorem Nuts.row {l : List ByteArray} {w : Nat} (h : Nuts l w) (j : Nat) (hj : j < l.length) : Digits (rdOf ByteArray.empty l (j : Int)) w := by
  rw [rs_lt l j hj]
  have hs := h.wide l[j] (List.getElem_mem hj)
  refine ⟨hs, h.wide8, fun i hi => ?_⟩
  rw [bt_lt _ i (by omega)]
  have := h.digit l[j] (List.getElem_mem hj) (l[j].data.toList[i]'(by show i < l[j].size; omega)) (List.getElem_mem _)
  omega
theorem rowSum_bd (s : ByteArray) (w : Nat) (h : Digits s w) : ∀ (d i : Nat), i + d ≤ w → 0 ≤ rowSum s i d ∧ rowSum s i d ≤ 9 * d := by
  intro d
  induction d with
  | zero => intro i hi; exact ⟨Int.le_refl _, by simp [rowSum]⟩
  | succ d ih =>
    intro i hi
    have a := ih (i + 1) (by omega)
    have b := h.2.2 i (by omega)
    have e : rowSum s i (d + 1) = (bt s (i : Int) - 48) + rowSum s (i + 1) d := rfl
    rw [e]
    omega
theorem partSum_bd {l : List ByteArray} {w : Nat} (h : Nuts l w) (x W : Nat) (hx : x + W ≤ w) : ∀ (d j : Nat), j + d ≤ l.length → 0 ≤ partSum l x W j d ∧ partSum l x W j d ≤ 72 * d := by
  intro d
  induction d with
  | zero => intro j hj; exact ⟨Int.le_refl _, by simp [partSum]⟩
  | succ d ih =>
    intro j hj
    have a := ih (j + 1) (by omega)
    have b := rowSum_bd _ w (h.row j (by omega)) W x hx
    have e : partSum l x W j (d + 1) = rowSum (rdOf ByteArray.empty l (j : Int)) x W + partSum l x W (j + 1) d := rfl
    have w8 := h.wide8
    rw [e]
    omega

section
variable {l : List ByteArray} {w : Nat}
theorem spec_sum_l1 (h : Nuts l w) (x X Y y : Nat) (hX : X ≤ w) (hy : y < l.length) (r : Int) (a0 : Int) (ha0 : 0 ≤ a0) (ha1 : a0 ≤ 100000)
    (next : Ev (fun k => spec_ntSum.l0 k l (x : Int) (X : Int) (Y : Int) (a0 + rowSum (rdOf ByteArray.empty l (y : Int)) x (X - x)) ((y + 1 : Nat) : Int)) r) :
    ∀ (d i : Nat) (a : Int), i + d = X → x ≤ i → a + rowSum (rdOf ByteArray.empty l (y : Int)) i d = a0 + rowSum (rdOf ByteArray.empty l (y : Int)) x (X - x) → 0 ≤ a → Ev (fun k => spec_ntSum.l1 k l (x : Int) (X : Int) (Y : Int) a (y : Int) (i : Int)) r := by
  have hd := h.row y hy
  have hl8 := h.rows8
  intro d
  induction d with
  | zero =>
    intro i a hi hxi ha h0
    have e : a = a0 + rowSum (rdOf ByteArray.empty l (y : Int)) x (X - x) := by rw [← ha]; simp [rowSum]
    subst e
    refine Ev.step (fun k => ?_) next
    simp only [spec_ntSum.l1]
    rw [if_neg (by omega), w64 (by omega) (by omega)]
    rfl
  | succ d ih =>
    intro i a hi hxi ha h0
    have b := hd.2.2 i (by omega)
    have hs := hd.1
    have bd := rowSum_bd _ w hd (X - x) x (by omega)
    have bd2 := rowSum_bd _ w hd d (i + 1) (by omega)
    have e1 : rowSum (rdOf ByteArray.empty l (y : Int)) i (d + 1) = (bt (rdOf ByteArray.empty l (y : Int)) (i : Int) - 48) + rowSum (rdOf ByteArray.empty l (y : Int)) (i + 1) d := rfl
    have w8 := h.wide8
    rw [e1] at ha
    refine Ev.step (fun k => ?_) (ih (i + 1) (a + (bt (rdOf ByteArray.empty l (y : Int)) (i : Int) - 48)) (by omega) (by omega) (by omega) (by omega))
    simp only [spec_ntSum.l1]
    rw [if_pos (by omega), if_pos (by omega), if_pos (by omega), if_pos (by omega), if_pos (by omega), w64 (x := (i : Int) + 1) (by omega) (by omega), show (bt (rdOf ByteArray.empty l (y : Int)) (i : Int) - 48) % 256 = bt (rdOf ByteArray.empty l (y : Int)) (i : Int) - 48 by omega, w64 (by omega) (by omega)]
    rfl
theorem spec_sum_l0 (h : Nuts l w) (x X Y : Nat) (hxX : x ≤ X) (hX : X ≤ w) (hY : Y ≤ l.length) :
    ∀ (d j : Nat) (a : Int), j + d = Y → 0 ≤ a → a ≤ 72 * j → Ev (fun k => spec_ntSum.l0 k l (x : Int) (X : Int) (Y : Int) a (j : Int)) (a + partSum l x (X - x) j d) := by
  have hl8 := h.rows8
  have w8 := h.wide8
  intro d
  induction d with
  | zero =>
    intro j a hj h0 h1
    refine Ev.step (f := fun _ => some (a + partSum l x (X - x) j 0)) (fun k => ?_) (Ev.now _)
    simp only [spec_ntSum.l0]
    rw [if_neg (by omega)]
    simp [partSum]
  | succ d ih =>
    intro j a hj h0 h1
    have bd := rowSum_bd _ w (h.row j (by omega)) (X - x) x (by omega)
    have next := ih (j + 1) (a + rowSum (rdOf ByteArray.empty l (j : Int)) x (X - x)) (by omega) (by omega) (by omega)
    have e : a + partSum l x (X - x) j (d + 1) = a + rowSum (rdOf ByteArray.empty l (j : Int)) x (X - x) + partSum l x (X - x) (j + 1) d := by
      show a + (_ + _) = _
      omega
    rw [e]
    refine Ev.step (fun k => ?_) (spec_sum_l1 h x X Y j hX (by omega) _ a h0 (by omega) next (X - x) x a (by omega) (Nat.le_refl _) rfl h0)
    simp only [spec_ntSum.l0]
    rw [if_pos (by omega)]
theorem ntSum_ev (h : Nuts l w) (x y X Y : Nat) (hxX : x ≤ X) (hX : X ≤ w) (hyY : y ≤ Y) (hY : Y ≤ l.length) : Ev (fun k => spec_ntSum.f k l (x : Int) (y : Int) (X : Int) (Y : Int)) (partSum l x (X - x) y (Y - y)) := by
  have := spec_sum_l0 h x X Y hxX hX hY (Y - y) y 0 (by omega) (Int.le_refl _) (by omega)
  rw [Int.zero_add] at this
  exact this

theorem impl_sum_l1 (h : Nuts l w) (L : List ByteArray) (n q : Int) (s : ByteArray) (hd : Digits s w) (x y W H : Nat) (hW : x + W ≤ w) (r : Int) (a0 : Int) (ha0 : 0 ≤ a0) (ha1 : a0 ≤ 100000)
    (next : Ev (fun k => impl_nutsIn.l0 k (a0 + rowSum s x W) L n (wrap64 (q + 1)) (x : Int) (y : Int) (W : Int) (H : Int)) r) :
    ∀ (d i : Nat) (a : Int), i + d = x + W → x ≤ i → a + rowSum s i d = a0 + rowSum s x W → 0 ≤ a → Ev (fun k => impl_nutsIn.l1 k a s (i : Int) L n q (x : Int) (y : Int) (W : Int) (H : Int)) r := by
  have hl8 := h.rows8
  have w8 := h.wide8
  have wX : wrap64 ((x : Int) + (W : Int)) = (x : Int) + (W : Int) := w64 (by omega) (by omega)
  intro d
  induction d with
  | zero =>
    intro i a hi hxi ha h0
    have e : a = a0 + rowSum s x W := by rw [← ha]; simp [rowSum]
    subst e
    refine Ev.step (fun k => ?_) next
    simp only [impl_nutsIn.l1, wX]
    rw [if_neg (by omega)]
  | succ d ih =>
    intro i a hi hxi ha h0
    have b := hd.2.2 i (by omega)
    have hs := hd.1
    have bd := rowSum_bd _ w hd W x (by omega)
    have bd2 := rowSum_bd _ w hd d (i + 1) (by omega)
    have e1 : rowSum s i (d + 1) = (bt s (i : Int) - 48) + rowSum s (i + 1) d := rfl
    rw [e1] at ha
    refine Ev.step (fun k => ?_) (ih (i + 1) (a + (bt s (i : Int) - 48)) (by omega) (by omega) (by omega) (by omega))
    simp only [impl_nutsIn.l1, wX]
    rw [if_pos (by omega), if_pos (by omega), if_pos (by omega), w64 (x := (i : Int) + 1) (by omega) (by omega), show (bt s (i : Int) - 48) % 256 = bt s (i : Int) - 48 by omega, w64 (by omega) (by omega)]
    rfl
theorem impl_sum_l0 (h : Nuts l w) (x y W H : Nat) (hW : x + W ≤ w) (hH : y + H ≤ l.length) (L : List ByteArray) (hL : L.length = H) (hr : ∀ j, j < H → rdOf ByteArray.empty L (j : Int) = rdOf ByteArray.empty l ((y + j : Nat) : Int)) :
    ∀ (d j : Nat) (a : Int), j + d = H → 0 ≤ a → a ≤ 72 * j → Ev (fun k => impl_nutsIn.l0 k a L (L.length : Int) (j : Int) (x : Int) (y : Int) (W : Int) (H : Int)) (a + partSum l x W (y + j) d) := by
  have hl8 := h.rows8
  have w8 := h.wide8
  intro d
  induction d with
  | zero =>
    intro j a hj h0 h1
    refine Ev.step (f := fun _ => some (a + partSum l x W (y + j) 0)) (fun k => ?_) (Ev.now _)
    simp only [impl_nutsIn.l0]
    rw [if_neg (by omega)]
    simp [partSum]
  | succ d ih =>
    intro j a hj h0 h1
    have hd := h.row (y + j) (by omega)
    have bd := rowSum_bd _ w hd W x (by omega)
    have next := ih (j + 1) (a + rowSum (rdOf ByteArray.empty l ((y + j : Nat) : Int)) x W) (by omega) (by omega) (by omega)
    have e : a + partSum l x W (y + j) (d + 1) = a + rowSum (rdOf ByteArray.empty l ((y + j : Nat) : Int)) x W + partSum l x W (y + (j + 1)) d := by
      show a + (_ + _) = _
      rw [show y + j + 1 = y + (j + 1) by omega]
      omega
    rw [e]
    refine Ev.step (fun k => ?_) (impl_sum_l1 h L (L.length : Int) (j : Int) _ hd x y W H hW _ a h0 (by omega) (by rw [w64 (by omega) (by omega)]; exact next) W x a (by omega) (Nat.le_refl _) rfl h0)
    simp only [impl_nutsIn.l0, hr j (by omega)]
    rw [if_pos (by omega), if_pos (by omega), if_pos (by omega)]
theorem nutsIn_ev (h : Nuts l w) (x y W H : Nat) (hW : x + W ≤ w) (hH : y + H ≤ l.length) : Ev (fun k => impl_nutsIn.f k l (x : Int) (y : Int) (W : Int) (H : Int)) (partSum l x W y H) := by
  have hl8 := h.rows8
  have w8 := h.wide8
  have wY : wrap64 ((y : Int) + (H : Int)) = ((y + H : Nat) : Int) := by rw [w64 (by omega) (by omega)]; omega
  have hlen : ((l.take (y + H)).drop y).length = H := by rw [List.length_drop, List.length_take]; omega
  have := impl_sum_l0 h x y W H hW hH ((l.take (y + H)).drop y) hlen (fun j hj => by
    rw [rs_lt _ j (by omega), rs_lt _ (y + j) (by omega)]
    simp) H 0 0 (by omega) (Int.le_refl _) (by omega)
  rw [Int.zero_add, Nat.add_zero] at this
  unfold impl_nutsIn.f
  simp only [wY, Int.toNat_natCast]
  simp only [if_pos (show 0 ≤ (y : Int) by omega), if_pos (show (y : Int) ≤ ((y + H : Nat) : Int) by omega), if_pos (show ((y + H : Nat) : Int) ≤ (l.length : Int) by omega)]
  exact this
end
end Go.Proofs.YtedpdfmaccoinaaDoor.Pure
namespace Go.Proofs.YtedpdfmaccoinaaDoor.Pure
open Go.RowKit Go.Proofs.YtedpdfmaccoinaaDoor.P Go.Proofs.YtedpdfmaccoinaaDoorW.PrintWords Go.Proofs.YtedpdfmaccoinaaDoorW.PrintLast Go.Proofs.YtedpdfmaccoinaaDoorW.PrintMore
theorem rowSum_split (s : ByteArray) (b : Nat) : ∀ (a i : Nat), rowSum s i (a + b) = rowSum s i a + rowSum s (i + a) b := by
  intro a
  induction a with
  | zero => intro i; rw [Nat.zero_add, Nat.add_zero]; simp [rowSum]
  | succ a ih =>
    intro i
    rw [show a + 1 + b = a + b + 1 by omega]
    show dg s i + rowSum s (i + 1) (a + b) = (dg s i + rowSum s (i + 1) a) + _
    rw [ih (i + 1), show i + 1 + a = i + (a + 1) by omega, Int.add_assoc]
theorem partSum_cols (l : List ByteArray) (x a b : Nat) : ∀ (d j : Nat), partSum l x (a + b) j d = partSum l x a j d + partSum l (x + a) b j d := by
  intro d
  induction d with
  | zero => intro j; simp [partSum]
  | succ d ih =>
    intro j
    show rowSum _ x (a + b) + partSum l x (a + b) (j + 1) d = (rowSum _ x a + partSum l x a (j + 1) d) + (rowSum _ (x + a) b + partSum l (x + a) b (j + 1) d)
    rw [ih (j + 1), rowSum_split]
    omega
theorem partSum_rows (l : List ByteArray) (x W b : Nat) : ∀ (a j : Nat), partSum l x W j (a + b) = partSum l x W j a + partSum l x W (j + a) b := by
  intro a
  induction a with
  | zero => intro j; rw [Nat.zero_add, Nat.add_zero]; simp [partSum]
  | succ a ih =>
    intro j
    rw [show a + 1 + b = a + b + 1 by omega]
    show rowSum _ x W + partSum l x W (j + 1) (a + b) = (rowSum _ x W + partSum l x W (j + 1) a) + _
    rw [ih (j + 1), show j + 1 + a = j + (a + 1) by omega, Int.add_assoc]
def ab (x : Int) : Int := if x < 0 then -x else x
theorem ab_pos (x : Int) : 0 ≤ ab x := by unfold ab; by_cases h : x < 0 <;> simp only [h, if_true, if_false] <;> omega
def brk (l : List ByteArray) (w : Nat) (v : Bool) (p : Nat) : Int := if v then ab (partSum l p (w - p) 0 l.length - partSum l 0 p 0 l.length) else ab (partSum l 0 w p (l.length - p) - partSum l 0 w 0 p)
theorem brk_pos (l : List ByteArray) (w : Nat) (v : Bool) (p : Nat) : 0 ≤ brk l w v p := by cases v <;> exact ab_pos _
theorem abs_some (x : Int) (h0 : -1000000 ≤ x) (h1 : x ≤ 1000000) : spec_l1Abs.f x = some (ab x) := by
  unfold spec_l1Abs.f spec_l1Most.f ab
  rw [w64 (by omega) (by omega)]
  by_cases c : x > -x
  · rw [if_pos c, if_neg (by omega)]; rfl
  · rw [if_neg c]
    by_cases c2 : x < 0
    · rw [if_pos c2]; rfl
    · rw [if_neg c2, show -x = x by omega]; rfl
theorem mx_ab (x : Int) (h0 : -1000000 ≤ x) (h1 : x ≤ 1000000) : mx (wrap64 x) (wrap64 (-(wrap64 x))) = ab (-x) := by
  rw [w64 (x := x) (by omega) (by omega), w64 (by omega) (by omega)]
  unfold mx ab
  by_cases c : x < -x
  · rw [if_pos c, if_neg (by omega)]
  · rw [if_neg c]
    by_cases c2 : -x < 0
    · rw [if_pos c2]; omega
    · rw [if_neg c2]; omega
section
variable {l : List ByteArray} {w : Nat}
theorem all_ev (h : Nuts l w) : Ev (fun k => spec_ntAll.f k l) (partSum l 0 w 0 l.length) := by
  have hp := h.rows1
  have h0 : ((rdOf ByteArray.empty l 0).size : Int) = (w : Int) := by
    have := (h.row 0 (by omega)).1
    simp only [Int.natCast_zero] at this
    omega
  have s := ntSum_ev h 0 0 w l.length (by omega) (Nat.le_refl _) (by omega) (Nat.le_refl _)
  unfold spec_ntAll.f
  refine ev_if_pos (by omega) ?_
  rw [h0]
  exact Ev.bind s (Ev.now _)
theorem ntBreak_ev (h : Nuts l w) (v : Bool) (p : Nat) (hp : 1 ≤ p) (hv : p < (if v then w else l.length)) : Ev (fun k => spec_ntBreak.f k l v (p : Int)) (brk l w v p) := by
  have h8 := h.rows8
  have w8 := h.wide8
  have h1 := h.rows1
  have h0 : ((rdOf ByteArray.empty l 0).size : Int) = (w : Int) := by
    have := (h.row 0 (by omega)).1
    simp only [Int.natCast_zero] at this
    omega
  have ha := all_ev h
  cases v with
  | true =>
    have hv : p < w := hv
    have s := ntSum_ev h 0 0 p l.length (by omega) (by omega) (by omega) (Nat.le_refl _)
    have e := partSum_cols l 0 p (w - p) l.length 0
    rw [show p + (w - p) = w by omega, Nat.zero_add] at e
    have bd1 := partSum_bd h 0 p (by omega) l.length 0 (by omega)
    have bd2 := partSum_bd h p (w - p) (by omega) l.length 0 (by omega)
    unfold spec_ntBreak.f
    refine ev_if_pos rfl (Ev.bind s (Ev.bind ha ?_))
    rw [Nat.sub_zero, Nat.sub_zero, w64 (x := 2 * _) (by omega) (by omega), w64 (by omega) (by omega)]
    refine ev_val (abs_some _ (by omega) (by omega)) ?_
    rw [show partSum l 0 w 0 l.length - 2 * partSum l 0 p 0 l.length = partSum l p (w - p) 0 l.length - partSum l 0 p 0 l.length by omega]
    exact Ev.now _
  | false =>
    have hv : p < l.length := hv
    have s := ntSum_ev h 0 0 w p (by omega) (by omega) (by omega) (by omega)
    have e := partSum_rows l 0 w (l.length - p) p 0
    rw [show p + (l.length - p) = l.length by omega, Nat.zero_add] at e
    have bd1 := partSum_bd h 0 w (by omega) p 0 (by omega)
    have bd2 := partSum_bd h 0 w (by omega) (l.length - p) p (by omega)
    unfold spec_ntBreak.f
    refine ev_if_neg (by decide) (ev_if_pos (by omega) ?_)
    rw [h0]
    refine Ev.bind s (Ev.bind ha ?_)
    rw [Nat.sub_zero, Nat.sub_zero, w64 (x := 2 * _) (by omega) (by omega), w64 (by omega) (by omega)]
    refine ev_val (abs_some _ (by omega) (by omega)) ?_
    rw [show partSum l 0 w 0 l.length - 2 * partSum l 0 w 0 p = partSum l 0 w p (l.length - p) - partSum l 0 w 0 p by omega]
    exact Ev.now _
theorem whole_some (h : Nuts l w) : impl_whole.f l = some (0, 0, (w : Int), (l.length : Int)) := by
  have hp := h.rows1
  have h0 : ((rdOf ByteArray.empty l 0).size : Int) = (w : Int) := by
    have := (h.row 0 (by omega)).1
    simp only [Int.natCast_zero] at this
    omega
  unfold impl_whole.f
  rw [if_pos (by omega), h0]
theorem apart_ev (h : Nuts l w) (v : Bool) (p : Nat) (hp : 1 ≤ p) (hv : p < (if v then w else l.length)) : Ev (fun k => impl_apart.f k l v (p : Int)) (brk l w v p) := by
  have h8 := h.rows8
  have w8 := h.wide8
  have h1 := h.rows1
  unfold impl_apart.f
  refine ev_val (whole_some h) ?_
  cases v with
  | true =>
    have hv : p < w := hv
    have hb : impl_part_broken.f 0 0 (w : Int) (l.length : Int) true (p : Int) = some (0, 0, (p : Int), (l.length : Int), (p : Int), 0, ((w - p : Nat) : Int), (l.length : Int)) := by
      unfold impl_part_broken.f impl_Bar_broken.f
      rw [if_pos rfl, within_some, w64 (x := (w : Int) - (p : Int)) (by omega) (by omega), show (w : Int) - (p : Int) = ((w - p : Nat) : Int) by omega]
      simp only [Option.bind_some, if_true]
      rw [w64 (x := (0 : Int) + (p : Int)) (by omega) (by omega), Int.zero_add]
    have bd1 := partSum_bd h 0 p (by omega) l.length 0 (by omega)
    have bd2 := partSum_bd h p (w - p) (by omega) l.length 0 (by omega)
    refine ev_val hb (Ev.bind (nutsIn_ev h 0 0 p l.length (by omega) (by omega)) (Ev.bind (nutsIn_ev h p 0 (w - p) l.length (by omega) (by omega)) ?_))
    rw [mx_ab _ (by omega) (by omega), show -(partSum l 0 p 0 l.length - partSum l p (w - p) 0 l.length) = partSum l p (w - p) 0 l.length - partSum l 0 p 0 l.length by omega]
    exact Ev.now _
  | false =>
    have hv : p < l.length := hv
    have hb : impl_part_broken.f 0 0 (w : Int) (l.length : Int) false (p : Int) = some (0, 0, (w : Int), (p : Int), 0, (p : Int), (w : Int), ((l.length - p : Nat) : Int)) := by
      unfold impl_part_broken.f impl_Bar_broken.f
      rw [if_neg (by decide), within_some, w64 (x := (l.length : Int) - (p : Int)) (by omega) (by omega), show (l.length : Int) - (p : Int) = ((l.length - p : Nat) : Int) by omega]
      simp only [Option.bind_some, Bool.false_eq_true, if_false]
      rw [w64 (x := (0 : Int) + (p : Int)) (by omega) (by omega), Int.zero_add]
    have bd1 := partSum_bd h 0 w (by omega) p 0 (by omega)
    have bd2 := partSum_bd h 0 w (by omega) (l.length - p) p (by omega)
    refine ev_val hb (Ev.bind (nutsIn_ev h 0 0 w p (by omega) (by omega)) (Ev.bind (nutsIn_ev h 0 p w (l.length - p) (by omega) (by omega)) ?_))
    rw [mx_ab _ (by omega) (by omega), show -(partSum l 0 w 0 p - partSum l 0 w p (l.length - p)) = partSum l 0 w p (l.length - p) - partSum l 0 w 0 p by omega]
    exact Ev.now _
end
def cutsOf (v : Bool) : Nat → Nat → List (Bool × Nat)
  | _, 0 => []
  | i, d + 1 => (v, i) :: cutsOf v (i + 1) d
def mkC (c : Bool × Nat) : S58 := ⟨c.1, (c.2 : Int)⟩
theorem cutsOf_mem (v : Bool) : ∀ (d i : Nat) (c : Bool × Nat), c ∈ cutsOf v i d → c.1 = v ∧ i ≤ c.2 ∧ c.2 < i + d := by
  intro d
  induction d with
  | zero => intro i c hc; exact absurd hc (List.not_mem_nil)
  | succ d ih =>
    intro i c hc
    rcases List.mem_cons.1 hc with rfl | hc
    · exact ⟨rfl, Nat.le_refl _, by show i < i + (d + 1); omega⟩
    · have := ih (i + 1) c hc
      exact ⟨this.1, by omega, by omega⟩
theorem cutsOf_len (v : Bool) : ∀ (d i : Nat), (cutsOf v i d).length = d
  | 0, _ => rfl
  | d + 1, i => by rw [show cutsOf v i (d + 1) = (v, i) :: cutsOf v (i + 1) d from rfl, List.length_cons, cutsOf_len v d]
theorem cuts_l1 (w h : Nat) (hh : h ≤ 100) : ∀ (d i : Nat) (acc : List S58), i + d = h → acc.length + d ≤ 1000 → Ev (fun k => impl_Bar_cuts.l1 k acc (i : Int) (w : Int) (h : Int)) (acc ++ (cutsOf false i d).map mkC) := by
  intro d
  induction d with
  | zero =>
    intro i acc hi ha
    refine Ev.step (f := fun _ => some acc) (fun k => ?_) (by rw [show acc ++ (cutsOf false i 0).map mkC = acc from List.append_nil _]; exact Ev.now _)
    simp only [impl_Bar_cuts.l1]
    rw [if_neg (by omega)]
  | succ d ih =>
    intro i acc hi ha
    have n := ih (i + 1) (acc ++ [mkC (false, i)]) (by omega) (by rw [List.length_append, List.length_singleton]; omega)
    rw [show acc ++ (cutsOf false i (d + 1)).map mkC = (acc ++ [mkC (false, i)]) ++ (cutsOf false (i + 1) d).map mkC by simp [cutsOf]]
    refine Ev.step (fun k => ?_) n
    simp only [impl_Bar_cuts.l1]
    rw [if_pos (by omega), if_pos (by omega), w64 (by omega) (by omega)]
    rfl
theorem cuts_l0 (w h : Nat) (hh : h ≤ 100) (hw : w ≤ 100) (hh1 : 1 ≤ h) : ∀ (d i : Nat) (acc : List S58), i + d = w → acc.length + d ≤ 500 → Ev (fun k => impl_Bar_cuts.l0 k acc (i : Int) (w : Int) (h : Int)) (acc ++ (cutsOf true i d ++ cutsOf false 1 (h - 1)).map mkC) := by
  intro d
  induction d with
  | zero =>
    intro i acc hi ha
    have n := cuts_l1 w h hh (h - 1) 1 acc (by omega) (by omega)
    refine Ev.step (fun k => ?_) n
    simp only [impl_Bar_cuts.l0]
    rw [if_neg (by omega)]
    rfl
  | succ d ih =>
    intro i acc hi ha
    have n := ih (i + 1) (acc ++ [mkC (true, i)]) (by omega) (by rw [List.length_append, List.length_singleton]; omega)
    rw [show acc ++ (cutsOf true i (d + 1) ++ cutsOf false 1 (h - 1)).map mkC = (acc ++ [mkC (true, i)]) ++ (cutsOf true (i + 1) d ++ cutsOf false 1 (h - 1)).map mkC by simp [cutsOf]]
    refine Ev.step (fun k => ?_) n
    simp only [impl_Bar_cuts.l0]
    rw [if_pos (by omega), if_pos (by omega), w64 (by omega) (by omega)]
    rfl
theorem rd_mkC (cs : List (Bool × Nat)) (i : Nat) (h : i < cs.length) : rd_T58 (cs.map mkC) (i : Int) = mkC cs[i] := by
  unfold rd_T58
  rw [Int.toNat_natCast, List.getD_eq_getElem?_getD, List.getElem?_map, List.getElem?_eq_getElem h]
  rfl
/-- All breaks of a bar. -/
def cuts (w h : Nat) : List (Bool × Nat) := cutsOf true 1 (w - 1) ++ cutsOf false 1 (h - 1)
theorem cuts_ev (w h : Nat) (hh : h ≤ 100) (hw : w ≤ 100) (hh1 : 1 ≤ h) (hw1 : 1 ≤ w) : Ev (fun k => impl_Bar_cuts.f k (w : Int) (h : Int)) ((cuts w h).map mkC) := by
  have := cuts_l0 w h hh hw hh1 (w - 1) 1 [] (by omega) (by simp; omega)
  rw [List.nil_append] at this
  exact this
theorem cuts_mem (w h : Nat) (c : Bool × Nat) (hc : c ∈ cuts w h) : 1 ≤ c.2 ∧ c.2 < (if c.1 then w else h) := by
  rcases List.mem_append.1 hc with hc | hc
  · have := cutsOf_mem true _ _ _ hc
    rw [this.1]
    exact ⟨this.2.1, by rw [if_pos rfl]; omega⟩
  · have := cutsOf_mem false _ _ _ hc
    rw [this.1]
    exact ⟨this.2.1, by rw [if_neg (by decide)]; omega⟩
theorem cuts_len (w h : Nat) : (cuts w h).length = (w - 1) + (h - 1) := by unfold cuts; rw [List.length_append, cutsOf_len, cutsOf_len]
end Go.Proofs.YtedpdfmaccoinaaDoor.Pure
namespace Go.Proofs.YtedpdfmaccoinaaDoor.Mem
open Go Go.Maps Go.RowKit Go.WideShapes
open Go.WideElems (Fit rd rg pl rd_val elemAt)
open Go.Proofs.YtedpdfmaccoinaaDoorW.PrintWords
set_option linter.unusedVariables false
/-- An element, as it stands. -/
def rawElem (v : Value) : Option (DataW Value × List MemPlace) := some (.held v, [])
theorem subset_length {α : Type} : ∀ (l KS : List α), l.Pairwise (fun p q => p ≠ q) → (∀ x ∈ l, x ∈ KS) → l.length ≤ KS.length
  | [], _, _, _ => Nat.zero_le _
  | x :: l, KS, hd, hs => by
    obtain ⟨h1, h2⟩ := List.pairwise_cons.1 hd
    obtain ⟨s, t, rfl⟩ := List.append_of_mem (hs x (by simp))
    have := subset_length l (s ++ t) h2 (fun y hy => by
      have hy' := hs y (by simp [hy])
      rcases List.mem_append.1 hy' with h | h
      · exact List.mem_append.2 (.inl h)
      · rcases List.mem_cons.1 h with rfl | h
        · exact absurd rfl (h1 _ hy)
        · exact List.mem_append.2 (.inr h))
    simp only [List.length_append, List.length_cons] at *
    omega
section
variable {H : Type} {P : Program} {k : TypeId} {R : Value → Option (DataW H × List MemPlace)} {w : World} {b n : Nat} {D : DataW H}
/-- A map whose keys are all among a list has no more entries than the list. -/
theorem tight (h : w.ownsMap P k R b n D) (K : Keyed P k) (KS : List Lit) (hk : ∀ l, Maps.has D l = true → l ∈ KS) : w.ownsMap P k R b KS.length D := by
  obtain ⟨es, clock, hb, F, hs, rfl⟩ := h
  refine ⟨es, clock, hb, F, ?_, rfl⟩
  have e1 : es.size = (((es.toList.map (rg P k R)).foldr DataW.insert []).map (·.1)).length := by
    rw [List.length_map, length_sorted]; simp
  rw [e1]
  refine subset_length _ KS ?_ ?_
  · rw [List.pairwise_map]
    exact ((sorted_perm _).pairwise_iff (fun {_ _} hne => Ne.symm hne)).2 (Maps.fit_apart K F)
  · intro l hl
    obtain ⟨p, hp, rfl⟩ := List.mem_map.1 hl
    refine hk _ ?_
    rw [Maps.has_eq]
    refine List.any_eq_true.2 ⟨p, hp, WideAt.sameKey_self ?_⟩
    obtain ⟨v, hv⟩ := Maps.fit_keys F p ((sorted_perm _).mem_iff.1 hp)
    exact K.key hv
end
/-- Block M is a map; whatever it holds at an x's key is right for x. -/
structure Memo {α : Type} (P : Program) (k : TypeId) (M : Nat) (KS : List Lit) (key : α → Lit) (G : α → Value → Prop) (W : World) : Prop where
  out : ∃ D : DataW Value, W.ownsMap P k rawElem M KS.length D ∧ (∀ l, Maps.has D l = true → l ∈ KS) ∧ ∀ x, Maps.has D (key x) = true → ∃ v, (∀ z, D.atKey (key x) z = .held v) ∧ G x v
section
variable {α : Type} {P : Program} {k e t : TypeId} {M : Nat} {KS : List Lit} {key : α → Lit} {G G' : α → Value → Prop} {W W' : World}
theorem Memo.block (h : Memo P k M KS key G W) : ∃ es clock, W.heap[M]? = some (.map es clock) := by
  obtain ⟨D, ⟨es, clock, hb, _⟩, _⟩ := h.out
  exact ⟨es, clock, hb⟩
theorem Memo.lt (h : Memo P k M KS key G W) : M < W.heap.size := by
  obtain ⟨es, clock, hb⟩ := h.block
  exact (Array.getElem?_eq_some_iff.1 hb).1
theorem Memo.ne (h : Memo P k M KS key G W) {g : Nat} {cs : Array Value} {ty : TypeId} {fz : Nat × Nat} (hg : W.heap[g]? = some (.cells cs ty fz)) : g ≠ M := by
  rintro rfl
  obtain ⟨es, clock, hb⟩ := h.block
  rw [hb] at hg
  cases hg
theorem Memo.kept (h : Memo P k M KS key G W) {row : Option Nat} (hg : W.grownBy W' row) (hne : some M ≠ row) : Memo P k M KS key G W' := by
  obtain ⟨D, h1, h2⟩ := h.out
  exact ⟨D, h1.kept hg hne, h2⟩
theorem Memo.mono (h : Memo P k M KS key G W) (hG : ∀ x v, G x v → G' x v) : Memo P k M KS key G' W := by
  obtain ⟨D, h1, h2, h3⟩ := h.out
  exact ⟨D, h1, h2, fun x hx => let ⟨v, a, b⟩ := h3 x hx; ⟨v, a, hG x v b⟩⟩
theorem Memo.made (W : World) (P : Program) (k : TypeId) (KS : List Lit) (key : α → Lit) (G : α → Value → Prop) : Memo P k W.heap.size KS key G (W.alloc (.map #[] 0)) :=
  ⟨.map [], (World.ownsMap_made W P k rawElem).mono (Nat.zero_le _), fun l h => by simp [Maps.has_eq] at h, fun x h => by simp [Maps.has_eq] at h⟩
theorem grown_below {w w' : World} (h : Below w.heap.size w w') (row : Option Nat) : w.grownBy w' row := ⟨h.os, h.tape, h.output, h.size, fun i hi _ => h.block i hi⟩
theorem grown_drewN (w : World) (n : Nat) (row : Option Nat) : w.grownBy (w.drewN n) row := grown_below (pw_below_drewN (Below.refl _ _) n) row
theorem grown_trans {a b c : World} {row : Option Nat} (h : a.grownBy b row) (k : b.grownBy c row) : a.grownBy c row :=
  ⟨k.os.trans h.os, k.tape.trans h.tape, k.output.trans h.output, Nat.le_trans h.size k.size, fun i hi hn => (k.block i (Nat.lt_of_lt_of_le hi h.size) hn).trans (h.block i hi hn)⟩
/-- A store into a block that is younger than the first world. -/
theorem grown_set {a b : World} {row : Option Nat} (h : a.grownBy b row) {g : Nat} (hg : a.heap.size ≤ g) (i : Nat) (u : Value) : a.grownBy (b.setCell ⟨g, i, none⟩ u) row := by
  have hb : Below a.heap.size b (b.setCell ⟨g, i, none⟩ u) := (Below.refl _ _).setCell hg _
  exact ⟨hb.os.trans h.os, hb.tape.trans h.tape, hb.output.trans h.output, Nat.le_trans h.size hb.size, fun j hj hn => (hb.block j hj).trans (h.block j hj hn)⟩
theorem gr_alloc {a b : World} {row : Option Nat} (h : a.grownBy b row) (o : Obj) : a.grownBy (b.alloc o) row := grown_trans h (World.grownBy_alloc b o row)
theorem gr_drew {a b : World} {row : Option Nat} (h : a.grownBy b row) : a.grownBy b.drew row := ⟨h.os, h.tape, h.output, h.size, h.block⟩
theorem gr_drewN {a b : World} {row : Option Nat} (h : a.grownBy b row) (n : Nat) : a.grownBy (b.drewN n) row := ⟨h.os, h.tape, h.output, h.size, h.block⟩
theorem me_alloc {W : World} (h : Memo P k M KS key G W) (o : Obj) : Memo P k M KS key G (W.alloc o) := h.kept (World.grownBy_alloc W o none) (by simp)
theorem me_drew {W : World} (h : Memo P k M KS key G W) : Memo P k M KS key G W.drew := h.kept (gr_drew (World.grownBy.refl W none)) (by simp)
theorem me_drewN {W : World} (h : Memo P k M KS key G W) (n : Nat) : Memo P k M KS key G (W.drewN n) := h.kept (grown_drewN W n none) (by simp)
theorem me_below {W W' : World} (h : Memo P k M KS key G W) (hb : Below W.heap.size W W') : Memo P k M KS key G W' := h.kept (grown_below hb none) (by simp)
theorem me_set {W : World} (h : Memo P k M KS key G W) {g : Nat} (hg : g ≠ M) (i : Nat) (u : Value) : Memo P k M KS key G (W.setCell ⟨g, i, none⟩ u) := by
  obtain ⟨D, h1, h2⟩ := h.out
  exact ⟨D, h1.setCell (a := ⟨g, i, none⟩) (Ne.symm hg) u, h2⟩
end
section
variable {α : Type} {P : Program} {ops : Array Oper} {rest : List Oper} {o : Oper} {a : Act} {Q : Exit → Act → World → Prop} {W : World} {k : TypeId} {M : Nat} {KS : List Lit} {key : α → Lit} {G : α → Value → Prop}
/-- 'v, ok := m[x]'. -/
theorem wp_look (hg : o.guard = none) (m x : Operand) (t : TypeId) (hop : o.op = Op.lookup t m x true)
    (e : TypeId) (K : Keyed P k) (ht : P.underlying t = some (.map k e)) {z : Value} (hz : (zeroValue e).run P W = .ok z W)
    (hm : a.eval m = .map (some M)) (h : Memo P k M KS key G W) (y : α) (kv : Value) (hx : a.eval x = kv) (hkey : keyOf P k kv = some (key y))
    (hit : ∀ v, G y v → wpList P ops Q rest (a.put o.dst (.tuple #[v, .bool true])) W)
    (miss : wpList P ops Q rest (a.put o.dst (.tuple #[z, .bool false])) W) :
    wpList P ops Q (o :: rest) a W := by
  obtain ⟨D, h1, h2, h3⟩ := h.out
  refine wpList_lookup_own_ok W hg m x t hop k e K ht rawElem hz (.held z) [] rfl M KS.length D hm h1 kv (key y) hx hkey ?_
  intro v ps hv
  cases hh : Maps.has D (key y) with
  | true =>
    obtain ⟨v', hat, hG⟩ := h3 y hh
    rw [hat] at hv
    obtain rfl : v = v' := by
      have := congrArg (fun q : Option (DataW Value × List MemPlace) => q.map (·.1)) hv
      simp [rawElem] at this
      exact this
    exact hit v hG
  | false =>
    rw [Maps.atKey_of_not_has hh] at hv
    obtain rfl : v = z := by
      have := congrArg (fun q : Option (DataW Value × List MemPlace) => q.map (·.1)) hv
      simp [rawElem] at this
      exact this
    exact miss
/-- 'm[x] = v'. -/
theorem wp_store (hg : o.guard = none) (m x v : Operand) (t : TypeId) (hop : o.op = Op.mapUpdate t m x v)
    (e : TypeId) (K : Keyed P k) (ht : P.underlying t = some (.map k e)) (hn : KS.length < maxLen)
    (hm : a.eval m = .map (some M)) (h : Memo P k M KS key G W) (y : α) (kv val : Value) (hx : a.eval x = kv) (hv : a.eval v = val) (hkey : keyOf P k kv = some (key y))
    (hin : key y ∈ KS) (hsame : ∀ y', key y' = key y → G y' val)
    (hK : ∀ W', Memo P k M KS key G W' → W.grownBy W' (some M) → wpList P ops Q rest (a.put o.dst undef) W') :
    wpList P ops Q (o :: rest) a W := by
  obtain ⟨D, h1, h2, h3⟩ := h.out
  refine wpList_mapUpdate_own W hg m x v t hop k e K ht rawElem M KS.length D hm h1 hn kv val (key y) hx hv hkey (.held val) [] rfl ?_
  intro W' hown hgr
  have hD : IsMap D := h1.isMap
  have hkl : WideAt.IsKeyLit (key y) := K.key hkey
  have hks : ∀ l, Maps.has (D.put (key y) (.held val)) l = true → l ∈ KS := by
    intro l hl
    by_cases e : l = key y
    · rw [e]; exact hin
    · rw [Maps.has_put_other e] at hl
      exact h2 l hl
  refine hK W' ⟨D.put (key y) (.held val), tight hown K KS hks, hks, ?_⟩ hgr
  intro x' hx'
  by_cases e : key x' = key y
  · refine ⟨val, fun z => ?_, hsame x' e⟩
    rw [e]; exact Maps.atKey_put_same hD hkl _ z
  · rw [Maps.has_put_other e] at hx'
    obtain ⟨v', hat, hG⟩ := h3 x' hx'
    exact ⟨v', fun z => by rw [Maps.atKey_put_other e]; exact hat z, hG⟩
end
end Go.Proofs.YtedpdfmaccoinaaDoor.Mem
namespace Go.Proofs.YtedpdfmaccoinaaDoor.Pure
open Go.RowKit Go.Proofs.YtedpdfmaccoinaaDoor.P Go.Proofs.YtedpdfmaccoinaaDoorW.PrintWords Go.Proofs.YtedpdfmaccoinaaDoorW.PrintLast Go.Proofs.YtedpdfmaccoinaaDoorW.PrintMore
abbrev Pt := Nat × Nat × Nat × Nat
/-- The first part of a break. -/
def oneP (q : Pt) (c : Bool × Nat) : Pt := if c.1 then (q.1, q.2.1, c.2, q.2.2.2) else (q.1, q.2.1, q.2.2.1, c.2)
/-- The second part. -/
def twoP (q : Pt) (c : Bool × Nat) : Pt := if c.1 then (q.1 + c.2, q.2.1, q.2.2.1 - c.2, q.2.2.2) else (q.1, q.2.1 + c.2, q.2.2.1, q.2.2.2 - c.2)
/-- A part inside a bar of w columns and h rows. -/
def Inn (w h : Nat) (q : Pt) : Prop := 1 ≤ q.2.2.1 ∧ 1 ≤ q.2.2.2 ∧ q.1 + q.2.2.1 ≤ w ∧ q.2.1 + q.2.2.2 ≤ h
def siz (q : Pt) : Nat := q.2.2.1 + q.2.2.2
def area (q : Pt) : Nat := q.2.2.1 * q.2.2.2
theorem Inn.one {w h : Nat} {q : Pt} (i : Inn w h q) {c : Bool × Nat} (hc : c ∈ cuts q.2.2.1 q.2.2.2) : Inn w h (oneP q c) ∧ siz (oneP q c) < siz q := by
  have m := cuts_mem _ _ _ hc
  obtain ⟨x, y, a, b⟩ := q
  obtain ⟨v, p⟩ := c
  cases v <;> simp only [Inn, siz, oneP, if_true, if_false, Bool.false_eq_true] at * <;> omega
theorem Inn.two {w h : Nat} {q : Pt} (i : Inn w h q) {c : Bool × Nat} (hc : c ∈ cuts q.2.2.1 q.2.2.2) : Inn w h (twoP q c) ∧ siz (twoP q c) < siz q := by
  have m := cuts_mem _ _ _ hc
  obtain ⟨x, y, a, b⟩ := q
  obtain ⟨v, p⟩ := c
  cases v <;> simp only [Inn, siz, twoP, if_true, if_false, Bool.false_eq_true] at * <;> omega
theorem rd_cuts (cs : List (Bool × Nat)) (i : Nat) (h : i < cs.length) : rd_T58 (cs.map mkC) (i : Int) = mkC cs[i] := by
  unfold rd_T58
  rw [Int.toNat_natCast, List.getD_eq_getElem?_getD, List.getElem?_map, List.getElem?_eq_getElem h]
  rfl
theorem foldl_congr_mem {α β : Type} {f g : β → α → β} : ∀ (l : List α) (b : β), (∀ b x, x ∈ l → f b x = g b x) → l.foldl f b = l.foldl g b
  | [], _, _ => rfl
  | x :: l, b, h => by
    rw [List.foldl_cons, List.foldl_cons, h b x (by simp), foldl_congr_mem l (g b x) (fun b y hy => h b y (by simp [hy]))]
theorem broken_part {w h : Nat} (hw : w ≤ 100) (hh : h ≤ 100) {x y a b : Nat} (i : Inn w h (x, y, a, b)) {v : Bool} {p : Nat} (hc : (v, p) ∈ cuts a b) :
    impl_part_broken.f (x : Int) (y : Int) (a : Int) (b : Int) v (p : Int) = some (((oneP (x, y, a, b) (v, p)).1 : Int), ((oneP (x, y, a, b) (v, p)).2.1 : Int), ((oneP (x, y, a, b) (v, p)).2.2.1 : Int), ((oneP (x, y, a, b) (v, p)).2.2.2 : Int),
      ((twoP (x, y, a, b) (v, p)).1 : Int), ((twoP (x, y, a, b) (v, p)).2.1 : Int), ((twoP (x, y, a, b) (v, p)).2.2.1 : Int), ((twoP (x, y, a, b) (v, p)).2.2.2 : Int)) := by
  have m := cuts_mem _ _ _ hc
  simp only [Inn] at i
  unfold impl_part_broken.f impl_Bar_broken.f
  cases v with
  | true =>
    simp only [if_true] at m
    rw [if_pos rfl, within_some, w64 (x := (a : Int) - (p : Int)) (by omega) (by omega), show (a : Int) - (p : Int) = ((a - p : Nat) : Int) by omega]
    simp only [Option.bind_some, if_true, oneP, twoP]
    rw [w64 (x := (x : Int) + (p : Int)) (by omega) (by omega), show (x : Int) + (p : Int) = ((x + p : Nat) : Int) by omega]
  | false =>
    simp only [Bool.false_eq_true, if_false] at m
    rw [if_neg (by decide), within_some, w64 (x := (b : Int) - (p : Int)) (by omega) (by omega), show (b : Int) - (p : Int) = ((b - p : Nat) : Int) by omega]
    simp only [Option.bind_some, Bool.false_eq_true, if_false, oneP, twoP]
    rw [w64 (x := (y : Int) + (p : Int)) (by omega) (by omega), show (y : Int) + (p : Int) = ((y + p : Nat) : Int) by omega]
theorem squares_nat {a b : Nat} (ha : a ≤ 100) (hb : b ≤ 100) : impl_Bar_squares.f (a : Int) (b : Int) = some ((a * b : Nat) : Int) := by
  have h : a * b ≤ 100 * 100 := Nat.mul_le_mul ha hb
  have h2 : ((a * b : Nat) : Int) ≤ 10000 := by omega
  have h3 : (0 : Int) ≤ ((a * b : Nat) : Int) := Int.natCast_nonneg _
  rw [Int.natCast_mul] at h2 h3
  unfold impl_Bar_squares.f
  rw [Int.natCast_mul, w64 (by omega) (by omega)]
end Go.Proofs.YtedpdfmaccoinaaDoor.Pure
namespace Go.Proofs.YtedpdfmaccoinaaDoor.Pure
open Go Go.Proofs.YtedpdfmaccoinaaDoor.Mem
theorem kt50 : Tryd.prog.keyType 50 = true := by kernel_rfl
theorem kt75 : Tryd.prog.keyType 75 = true := by kernel_rfl
theorem tsz : ∃ n, Tryd.prog.types.size = n + 3 := ⟨Tryd.prog.types.size - 3, by kernel_rfl⟩
theorem c75 : Tryd.prog.cellsOf 75 = 5 := by kernel_rfl
theorem c50 : Tryd.prog.cellsOf 50 = 4 := by kernel_rfl
theorem c30 : Tryd.prog.cellsOf 30 = 2 := by kernel_rfl
theorem c3 : Tryd.prog.cellsOf 3 = 1 := by kernel_rfl
theorem kl3 (n : Nat) (x : Int) (hx : (Lit.int .i64 x).wf = true) : Tryd.prog.keyLits (n+1) 3 [.int .i64 x] = some [.int .i64 x] := by
  simp only [Program.keyLits, Tryd.underlying3, hx]; rfl
theorem kl30 (n : Nat) (x y : Int) (hx : (Lit.int .i64 x).wf = true) (hy : (Lit.int .i64 y).wf = true) : Tryd.prog.keyLits (n+2) 30 [.int .i64 x, .int .i64 y] = some [.int .i64 x, .int .i64 y] := by
  unfold Program.keyLits; simp only [Tryd.underlying30]
  simp [c30, c3, kl3 n _ hx, kl3 n _ hy]
theorem kl50 (n : Nat) (x y a b : Int) (hx : (Lit.int .i64 x).wf = true) (hy : (Lit.int .i64 y).wf = true) (ha : (Lit.int .i64 a).wf = true) (hb : (Lit.int .i64 b).wf = true) : Tryd.prog.keyLits (n+3) 50 [.int .i64 x, .int .i64 y, .int .i64 a, .int .i64 b] = some [.int .i64 x, .int .i64 y, .int .i64 a, .int .i64 b] := by
  unfold Program.keyLits; simp only [Tryd.underlying50]
  simp [c50, c30, c3, kl3 (n+1) _ hx, kl3 (n+1) _ hy, kl30 n _ _ ha hb]
theorem kl75 (n : Nat) (x y a b m : Int) (hx : (Lit.int .i64 x).wf = true) (hy : (Lit.int .i64 y).wf = true) (ha : (Lit.int .i64 a).wf = true) (hb : (Lit.int .i64 b).wf = true) (hm : (Lit.int .i64 m).wf = true) : Tryd.prog.keyLits (n+4) 75 [.int .i64 x, .int .i64 y, .int .i64 a, .int .i64 b, .int .i64 m] = some [.int .i64 x, .int .i64 y, .int .i64 a, .int .i64 b, .int .i64 m] := by
  unfold Program.keyLits; simp only [Tryd.underlying75]
  simp [c75, c50, c3, kl3 (n+2) _ hm, kl50 n _ _ _ _ hx hy ha hb]
def valQ (q : Pt) : Value := .agg #[.int .i64 (q.1 : Int), .int .i64 (q.2.1 : Int), .int .i64 (q.2.2.1 : Int), .int .i64 (q.2.2.2 : Int)]
def valR (r : Pt × Nat) : Value := .agg #[.int .i64 (r.1.1 : Int), .int .i64 (r.1.2.1 : Int), .int .i64 (r.1.2.2.1 : Int), .int .i64 (r.1.2.2.2 : Int), .int .i64 (r.2 : Int)]
noncomputable def keyQ (q : Pt) : Lit := (keyOf Tryd.prog 50 (valQ q)).getD .nil
noncomputable def keyR (r : Pt × Nat) : Lit := (keyOf Tryd.prog 75 (valR r)).getD .nil
def Few9 (q : Pt) : Prop := q.1 < 9 ∧ q.2.1 < 9 ∧ q.2.2.1 < 9 ∧ q.2.2.2 < 9
theorem wfn {n : Nat} (h : n < 9) : (Lit.int .i64 (n : Int)).wf = true := by
  have : ∀ k : Fin 9, (Lit.int .i64 ((k.1 : Nat) : Int)).wf = true := by decide
  exact this ⟨n, h⟩
theorem keyQ_some (q : Pt) (h : Few9 q) : keyOf Tryd.prog 50 (valQ q) = some (keyQ q) := by
  obtain ⟨n, hn⟩ := tsz
  obtain ⟨x, y, a, b⟩ := q
  obtain ⟨h1, h2, h3, h4⟩ := h
  have : ∃ k, keyOf Tryd.prog 50 (valQ (x, y, a, b)) = some k := by
    unfold keyOf valQ
    rw [Tryd.underlying50]
    simp only [kt50, Value.formed, Tryd.underlying50, c50, Value.cells]
    rw [hn, show n + 3 + 1 = (n + 1) + 3 from rfl, kl50 (n + 1) _ _ _ _ (wfn h1) (wfn h2) (wfn h3) (wfn h4)]
    exact ⟨_, rfl⟩
  obtain ⟨k, hk⟩ := this
  rw [keyQ, hk]; rfl
theorem keyR_some (r : Pt × Nat) (h : Few9 r.1) (hm : r.2 < 9) : keyOf Tryd.prog 75 (valR r) = some (keyR r) := by
  obtain ⟨n, hn⟩ := tsz
  obtain ⟨⟨x, y, a, b⟩, m⟩ := r
  obtain ⟨h1, h2, h3, h4⟩ := h
  have : ∃ k, keyOf Tryd.prog 75 (valR ((x, y, a, b), m)) = some k := by
    unfold keyOf valR
    rw [Tryd.underlying75]
    simp only [kt75, Value.formed, Tryd.underlying75, c75, Value.cells]
    rw [hn, show n + 3 + 1 = n + 4 from rfl, kl75 n _ _ _ _ _ (wfn h1) (wfn h2) (wfn h3) (wfn h4) (wfn hm)]
    exact ⟨_, rfl⟩
  obtain ⟨k, hk⟩ := this
  rw [keyR, hk]; rfl
theorem law50 : Maps.Keyed Tryd.prog 50 := Maps.Keyed.of_law (deep_law_laid (by kernel_rfl) (m := 10) (by decide) (of_decide_eq_true (by kernel_rfl)) (by kernel_rfl) (by rw [Tryd.underlying50]))
theorem law75 : Maps.Keyed Tryd.prog 75 := Maps.Keyed.of_law (deep_law_laid (by kernel_rfl) (m := 10) (by decide) (of_decide_eq_true (by kernel_rfl)) (by kernel_rfl) (by rw [Tryd.underlying75]))
theorem valQ_inj {q q' : Pt} (h : valQ q = valQ q') : q = q' := by
  obtain ⟨x, y, a, b⟩ := q
  obtain ⟨x', y', a', b'⟩ := q'
  simp only [valQ, Value.agg.injEq, Array.mk.injEq, List.cons.injEq, Value.int.injEq, true_and, and_true] at h
  obtain ⟨h1, h2, h3, h4⟩ := h
  rw [Int.ofNat_inj.1 h1, Int.ofNat_inj.1 h2, Int.ofNat_inj.1 h3, Int.ofNat_inj.1 h4]
theorem valR_inj {r r' : Pt × Nat} (h : valR r = valR r') : r = r' := by
  obtain ⟨⟨x, y, a, b⟩, m⟩ := r
  obtain ⟨⟨x', y', a', b'⟩, m'⟩ := r'
  simp only [valR, Value.agg.injEq, Array.mk.injEq, List.cons.injEq, Value.int.injEq, true_and, and_true] at h
  obtain ⟨h1, h2, h3, h4, h5⟩ := h
  rw [Int.ofNat_inj.1 h1, Int.ofNat_inj.1 h2, Int.ofNat_inj.1 h3, Int.ofNat_inj.1 h4, Int.ofNat_inj.1 h5]
def r9 : List Nat := List.range 9
def ptsQ : List Pt := r9.flatMap fun x => r9.flatMap fun y => r9.flatMap fun a => r9.map fun b => (x, y, a, b)
def ptsR : List (Pt × Nat) := ptsQ.flatMap fun q => r9.map fun m => (q, m)
theorem mem_ptsQ (q : Pt) (h : Few9 q) : q ∈ ptsQ := by
  obtain ⟨x, y, a, b⟩ := q
  obtain ⟨h1, h2, h3, h4⟩ := h
  exact List.mem_flatMap.2 ⟨x, List.mem_range.2 h1, List.mem_flatMap.2 ⟨y, List.mem_range.2 h2, List.mem_flatMap.2 ⟨a, List.mem_range.2 h3, List.mem_map.2 ⟨b, List.mem_range.2 h4, rfl⟩⟩⟩⟩
theorem mem_ptsR (r : Pt × Nat) (h : Few9 r.1) (hm : r.2 < 9) : r ∈ ptsR := List.mem_flatMap.2 ⟨r.1, mem_ptsQ _ h, List.mem_map.2 ⟨r.2, List.mem_range.2 hm, rfl⟩⟩
theorem flat_len {α β : Type} (f : α → List β) (m : Nat) : ∀ l : List α, (∀ x ∈ l, (f x).length = m) → (l.flatMap f).length = l.length * m
  | [], _ => by simp
  | x :: l, h => by
    rw [List.flatMap_cons, List.length_append, h x (by simp), flat_len f m l (fun y hy => h y (by simp [hy])), List.length_cons, Nat.succ_mul, Nat.add_comm]
theorem len_ptsQ : ptsQ.length = 6561 := by
  have h9 : r9.length = 9 := rfl
  unfold ptsQ
  rw [flat_len _ 729 _ (fun x _ => ?_), h9]
  rw [flat_len _ 81 _ (fun y _ => ?_), h9]
  rw [flat_len _ 9 _ (fun a _ => ?_), h9]
  rw [List.length_map, h9]
theorem len_ptsR : ptsR.length = 59049 := by
  unfold ptsR
  rw [flat_len _ 9 _ (fun q _ => by rw [List.length_map]; rfl), len_ptsQ]
noncomputable def ksQ : List Lit := ptsQ.map keyQ
noncomputable def ksR : List Lit := ptsR.map keyR
theorem ksQ_lt : ksQ.length < maxLen := by unfold ksQ; rw [List.length_map, len_ptsQ]; decide
theorem ksR_lt : ksR.length < maxLen := by unfold ksR; rw [List.length_map, len_ptsR]; decide
end Go.Proofs.YtedpdfmaccoinaaDoor.Pure
namespace Go.Proofs.YtedpdfmaccoinaaDoor.P
open Go.RowKit Go.Proofs.YtedpdfmaccoinaaDoorW.PrintWords Go.Proofs.YtedpdfmaccoinaaDoorW.PrintLast Go.Proofs.YtedpdfmaccoinaaDoorW.PrintMore Go.Proofs.YtedpdfmaccoinaaDoor.Pure Go.Proofs.YtedpdfmaccoinaaDoor.Mem
attribute [local go_sem] max2_int min2_int max_two min_two max_three min_three max_four min_four
set_option linter.unusedVariables false
set_option linter.unusedSimpArgs false
def poorIn (f : Pt → Nat → Int) (q : Pt) (m : Nat) (c : Bool × Nat) (bst : Int) : Nat → Int
  | 0 => bst
  | j + 1 => mx (poorIn f q m c bst j) (mn (f (oneP q c) (j + 1)) (f (twoP q c) (m - (j + 1))))
/-- The most that the poorest can have, by rounds left. -/
def poorF (l : List ByteArray) : Nat → Pt → Nat → Int
  | 0, _, _ => 0
  | k + 1, q, m => if m = 1 then partSum l q.1 q.2.2.1 q.2.1 q.2.2.2 else (cuts q.2.2.1 q.2.2.2).foldl (fun best c => poorIn (poorF l k) q m c best (m - 1)) (-1)
theorem poorIn_congr {f g : Pt → Nat → Int} {q : Pt} {m : Nat} {c : Bool × Nat} (h1 : ∀ j, f (oneP q c) j = g (oneP q c) j) (h2 : ∀ j, f (twoP q c) j = g (twoP q c) j) (bst : Int) : ∀ j, poorIn f q m c bst j = poorIn g q m c bst j
  | 0 => rfl
  | j + 1 => by simp only [poorIn, h1, h2, poorIn_congr h1 h2 bst j]
theorem poorF_fuel (l : List ByteArray) (w h : Nat) : ∀ (k k' : Nat) (q : Pt) (m : Nat), Inn w h q → siz q ≤ k → siz q ≤ k' → poorF l k q m = poorF l k' q m := by
  intro k
  induction k with
  | zero => intro k' q m i hk; exact absurd i.1 (by unfold siz at hk; omega)
  | succ k ih =>
    intro k' q m i hk hk'
    cases k' with
    | zero => exact absurd i.1 (by unfold siz at hk'; omega)
    | succ k' =>
      simp only [poorF]
      by_cases c : m = 1
      · rw [if_pos c, if_pos c]
      · rw [if_neg c, if_neg c]
        refine foldl_congr_mem _ _ (fun b c hc => ?_)
        have h1 := i.one hc
        have h2 := i.two hc
        exact poorIn_congr (fun j => ih k' _ j h1.1 (by omega) (by omega)) (fun j => ih k' _ j h2.1 (by omega) (by omega)) _ _
/-- The most that the poorest of so many can have by pieces of a part. -/
def poor (l : List ByteArray) (q : Pt) (m : Nat) : Int := poorF l 20 q m
theorem poor_eq (l : List ByteArray) {w h : Nat} (hw : w ≤ 8) (hh : h ≤ 8) {q : Pt} (i : Inn w h q) (m : Nat) :
    poor l q m = if m = 1 then partSum l q.1 q.2.2.1 q.2.1 q.2.2.2 else (cuts q.2.2.1 q.2.2.2).foldl (fun best c => poorIn (poor l) q m c best (m - 1)) (-1) := by
  have hs : siz q ≤ 16 := by unfold siz; unfold Inn at i; omega
  unfold poor
  rw [poorF_fuel l w h 20 21 q m i (by omega) (by omega)]
  rw [poorF]
def poorUp (l : List ByteArray) (q : Pt) (m : Nat) (cs : List (Bool × Nat)) (n : Nat) : Int := (cs.take n).foldl (fun best c => poorIn (poor l) q m c best (m - 1)) (-1)
theorem poorUp_succ (l : List ByteArray) (q : Pt) (m : Nat) (cs : List (Bool × Nat)) (n : Nat) (h : n < cs.length) : poorUp l q m cs (n + 1) = poorIn (poor l) q m cs[n] (poorUp l q m cs n) (m - 1) := by
  unfold poorUp
  rw [← List.take_append_getElem h, List.foldl_append]
  rfl
section
variable (l : List ByteArray) (wd : Nat) (A0 : Option Addr) (c0 : Nat) (Bn Bk Bf M : Nat) (w0 : World)
abbrev poorFn : Value := .func (.func 57) #[] #[.pointer (some ⟨Bn, 0, none⟩), .pointer (some ⟨Bk, 0, none⟩), .pointer (some ⟨Bf, 0, none⟩)]
def poorG (r : Pt × Nat) (v : Value) : Prop := Few9 r.1 → r.2 < 9 → Inn wd l.length r.1 → v = .int .i64 (poor l r.1 r.2)
/-- What the literal's boxes hold, and the memory. -/
structure PoorEnv (W : World) : Prop where
  bn : W.heap[Bn]? = some (.cells #[.slice A0 l.length c0] 22 (0, 0))
  bk : W.heap[Bk]? = some (.cells #[.map (some M)] 72 (0, 0))
  bf : W.heap[Bf]? = some (.cells #[poorFn Bn Bk Bf] 73 (0, 0))
  rows : Kd.C Kd.string w0 A0 l.length l
  below : Below w0.heap.size w0 W
  hM : w0.heap.size ≤ M
  mem : Memo Tryd.prog 75 M ksR keyR (poorG l wd) W
  fit : l.length ≤ c0
variable {l wd A0 c0 Bn Bk Bf M w0}
theorem PoorEnv.step {W W' : World} (h : PoorEnv l wd A0 c0 Bn Bk Bf M w0 W) (hg : W.grownBy W' (some M)) (hm : Memo Tryd.prog 75 M ksR keyR (poorG l wd) W') : PoorEnv l wd A0 c0 Bn Bk Bf M w0 W' :=
  have ne : ∀ {g : Nat} {cs : Array Value} {ty : TypeId}, W.heap[g]? = some (.cells cs ty (0, 0)) → some g ≠ some M := fun hg' e => h.mem.ne hg' (Option.some.inj e)
  ⟨blk_grown h.bn hg (ne h.bn), blk_grown h.bk hg (ne h.bk), blk_grown h.bf hg (ne h.bf), h.rows, pw_below_grown h.below (some M) (below_size h.below) hg (fun k hk => by cases hk; exact h.hM), h.hM, hm, h.fit⟩
theorem PoorEnv.rowsAt {W : World} (h : PoorEnv l wd A0 c0 Bn Bk Bf M w0 W) : Kd.C Kd.string W A0 l.length l := Kd.C_below h.rows h.below
theorem PoorEnv.belowStep {W W' : World} (h : PoorEnv l wd A0 c0 Bn Bk Bf M w0 W) (hb : Below W.heap.size W W') : PoorEnv l wd A0 c0 Bn Bk Bf M w0 W' :=
  h.step (grown_below hb _) (h.mem.kept (grown_below hb none) (by simp))
theorem R_memoR {α β : Type} {d : Kd α} {e base : Nat} {ok : Nat → Prop} {v : Value} {xs : List α} {wr w' : World} {M : Nat} {KS : List Lit} {key : β → Lit} {G : β → Value → Prop} {k : TypeId} (h : d.R e wr base ok v xs) (hm : Memo Tryd.prog k M KS key G wr) (hq : wr.grownBy w' (some M)) : d.R e w' base ok v xs :=
  Kd.R_mono (Kd.R_grown (Kd.R_bound h) hq (fun k hk e => by obtain ⟨_, _, _, q, _, cells, hc⟩ := hk; exact hm.ne hc (Option.some.inj e))) (fun _ h => h.1)
theorem poorG_same {r : Pt × Nat} (hf : Few9 r.1) (hm : r.2 < 9) : ∀ r', keyR r' = keyR r → poorG l wd r' (.int .i64 (poor l r.1 r.2)) := by
  intro r' hk h9 h9m _
  have e1 := keyR_some r' h9 h9m
  rw [hk] at e1
  obtain rfl := valR_inj (law75.inj e1 (keyR_some r hf hm))
  rfl
theorem zero3R (w : World) : (zeroValue 3).run Tryd.prog w = .ok (.int .i64 0) w := by kernel_rfl
set_option maxHeartbeats 16000000 in
set_option maxRecDepth 100000 in
theorem poor_any (HN : Nuts l wd) : ∀ (s x y a b m : Nat), Inn wd l.length (x, y, a, b) → 1 ≤ m → m ≤ 5 → a + b ≤ s → ∀ W, PoorEnv l wd A0 c0 Bn Bk Bf M w0 W →
    Calls Tryd.prog 57 #[.agg #[.int .i64 (x : Int), .int .i64 (y : Int), .int .i64 (a : Int), .int .i64 (b : Int)], .int .i64 (m : Int), .pointer (some ⟨Bn, 0, none⟩), .pointer (some ⟨Bk, 0, none⟩), .pointer (some ⟨Bf, 0, none⟩)] W fun e W' => e = .returned (.int .i64 (poor l (x, y, a, b) m)) ∧ W.grownBy W' (some M) ∧ PoorEnv l wd A0 c0 Bn Bk Bf M w0 W' := by
  have hw8 := HN.wide8
  have hl8 := HN.rows8
  intro s
  induction s with
  | zero => intro x y a b m i h1m hm5 hs; exact absurd i.1 (by show ¬ 1 ≤ a; omega)
  | succ s ih =>
    intro x y a b m i h1m hm5 hs W HE0
    have hlx : a ≤ 8 ∧ b ≤ 8 ∧ x ≤ 8 ∧ y ≤ 8 := by simp only [Inn] at i; omega
    have HK9 := Aside0.mk (show Few9 (x, y, a, b) from ⟨by show x < 9; omega, by show y < 9; omega, by show a < 9; omega, by show b < 9; omega⟩)
    have HM9 := Aside0.mk (show m < 9 by omega)
    have HE := Aside0.mk HE0
    have HM := Aside0.mk HE0.mem
    have HG := Aside0.mk (World.grownBy.refl W (some M))
    obtain ⟨kn, hkn⟩ := nutsIn_ev HN x y a b (by simp only [Inn] at i; omega) (by simp only [Inn] at i; omega)
    have HNU := Aside0.mk (hkn kn (Nat.le_refl _))
    clear hkn
    obtain ⟨kc, hkc⟩ := cuts_ev a b (by omega) (by omega) i.2.1 i.1
    have HCU := Aside0.mk (hkc kc (Nat.le_refl _))
    clear hkc
    have FE := Aside0.mk (poor_eq l hw8 hl8 i m)
    have HI := Aside0.mk i
    clear HE0 i
    by_cases h1 : m = 1
    · subst h1
      have FE1 := FE.out
      rw [if_pos rfl] at FE1
      have FV := Aside0.mk FE1
      clear FE FE1 HCU
      go_enter Tryd.func57, Tryd.ntmps57
      go_wp2_with (first | ((with_reducible refine gate_dst (N := 5) rfl ?_); refine box_event ?hg (N := 5) ?hd (cs := #[.int .i64 (x : Int), .int .i64 (y : Int), .int .i64 (a : Int), .int .i64 (b : Int)]) (t := 50) ?hr ?_; (case hd => rfl); (case hg => rfl); (case hr => first | (go_simp; done) | (go_simp; rfl)); intro g5 hg w1 hbox hb; have GE5 := Aside0.mk (show W.heap.size ≤ g5 by rw [hg]; exact (show W.grownBy _ (some M) from (show W.grownBy _ (some M) by repeat (first | (with_reducible first | exact HG.out | refine gr_alloc ?_ _ | refine gr_drewN ?_ _ | refine gr_drew ?_) | exact HG.out))).size); have BK5 := Aside0.mk hbox; have n0_ := Aside0.mk (grown_trans (show W.grownBy _ (some M) by repeat (first | (with_reducible first | exact HG.out | refine gr_alloc ?_ _ | refine gr_drewN ?_ _ | refine gr_drew ?_) | exact HG.out)) (grown_below hb (some M))); have n1_ := Aside0.mk (me_below (show Memo Tryd.prog 75 M ksR keyR (poorG l wd) _ by repeat (first | (with_reducible first | exact HM.out | refine me_alloc ?_ _ | refine me_drewN ?_ _ | refine me_drew ?_) | exact HM.out)) hb); clear HG HM; have HG := n0_; have HM := n1_; clear n0_ n1_; clear hb; have NE5 := Aside0.mk (HM.out.ne BK5.out); clear hbox hg; have h5_0_w1 : w1.cell? ⟨g5, 0, none⟩ = some (.int .i64 (x : Int)) := (blk_cell BK5.out 0).trans rfl; have f5_0_w1 : w1.frozen? ⟨g5, 0, none⟩ = false := blk_frozen BK5.out 0; have h5_1_w1 : w1.cell? ⟨g5, 1, none⟩ = some (.int .i64 (y : Int)) := (blk_cell BK5.out 1).trans rfl; have f5_1_w1 : w1.frozen? ⟨g5, 1, none⟩ = false := blk_frozen BK5.out 1; have h5_2_w1 : w1.cell? ⟨g5, 2, none⟩ = some (.int .i64 (a : Int)) := (blk_cell BK5.out 2).trans rfl; have f5_2_w1 : w1.frozen? ⟨g5, 2, none⟩ = false := blk_frozen BK5.out 2; have h5_3_w1 : w1.cell? ⟨g5, 3, none⟩ = some (.int .i64 (b : Int)) := (blk_cell BK5.out 3).trans rfl; have f5_3_w1 : w1.frozen? ⟨g5, 3, none⟩ = false := blk_frozen BK5.out 3; have hcn : w1.cell? ⟨Bn, 0, none⟩ = some (.slice A0 l.length c0) := (blk_cell (HE.out.step HG.out HM.out).bn 0).trans rfl; have hck : w1.cell? ⟨Bk, 0, none⟩ = some (.map (some M)) := (blk_cell (HE.out.step HG.out HM.out).bk 0).trans rfl) | ((go_at_call 41; refine (impl_nutsIn.calls kn _ _ l _ _ _ _ _ _ (HE.out.step (show W.grownBy _ (some M) by repeat (first | (with_reducible first | exact HG.out | refine gr_alloc ?_ _ | refine gr_drewN ?_ _ | refine gr_drew ?_) | exact HG.out)) (show Memo Tryd.prog 75 M ksR keyR (poorG l wd) _ by repeat (first | (with_reducible first | exact HM.out | refine me_alloc ?_ _ | refine me_drewN ?_ _ | refine me_drew ?_) | exact HM.out))).rowsAt HE.out.fit HNU.out).mono ?_; rintro e w3 ⟨rfl, hb⟩; have n0_ := Aside0.mk (grown_trans (show W.grownBy _ (some M) by repeat (first | (with_reducible first | exact HG.out | refine gr_alloc ?_ _ | refine gr_drewN ?_ _ | refine gr_drew ?_) | exact HG.out)) (grown_below hb (some M))); have n1_ := Aside0.mk (me_below (show Memo Tryd.prog 75 M ksR keyR (poorG l wd) _ by repeat (first | (with_reducible first | exact HM.out | refine me_alloc ?_ _ | refine me_drewN ?_ _ | refine me_drew ?_) | exact HM.out)) hb); have n2_ := Aside0.mk (blk_below (g := g5) (o := .cells #[.int .i64 (x : Int), .int .i64 (y : Int), .int .i64 (a : Int), .int .i64 (b : Int)] 50 (0, 0)) (by (with_reducible repeat (first | refine blk_drewN ?_ _ | refine blk_drew ?_ | refine blk_alloc ?_ _)); exact BK5.out) hb); clear HG HM BK5; have HG := n0_; have HM := n1_; have BK5 := n2_; clear n0_ n1_ n2_; clear hb; have h5_0_w3 : w3.cell? ⟨g5, 0, none⟩ = some (.int .i64 (x : Int)) := (blk_cell BK5.out 0).trans rfl; have f5_0_w3 : w3.frozen? ⟨g5, 0, none⟩ = false := blk_frozen BK5.out 0; have h5_1_w3 : w3.cell? ⟨g5, 1, none⟩ = some (.int .i64 (y : Int)) := (blk_cell BK5.out 1).trans rfl; have f5_1_w3 : w3.frozen? ⟨g5, 1, none⟩ = false := blk_frozen BK5.out 1; have h5_2_w3 : w3.cell? ⟨g5, 2, none⟩ = some (.int .i64 (a : Int)) := (blk_cell BK5.out 2).trans rfl; have f5_2_w3 : w3.frozen? ⟨g5, 2, none⟩ = false := blk_frozen BK5.out 2; have h5_3_w3 : w3.cell? ⟨g5, 3, none⟩ = some (.int .i64 (b : Int)) := (blk_cell BK5.out 3).trans rfl; have f5_3_w3 : w3.frozen? ⟨g5, 3, none⟩ = false := blk_frozen BK5.out 3)))
      go_ret
      exact ⟨by rw [FV.out]; rfl, HG.out, HE.out.step HG.out HM.out⟩
    · have e1 : ((m : Int) == 1) = false := beq_eq_false_iff_ne.2 (by omega)
      have e1d : decide (m = 1) = false := decide_eq_false h1
      have FE1 := FE.out
      rw [if_neg h1] at FE1
      have FV := Aside0.mk FE1
      have HM2 := Aside0.mk (show 2 ≤ m by omega)
      clear FE FE1 HNU
      obtain ⟨cs, hcs⟩ : ∃ cs, cuts a b = cs := ⟨_, rfl⟩
      rw [show cuts (x, y, a, b).2.2.1 (x, y, a, b).2.2.2 = cs from hcs] at FV
      rw [hcs] at HCU
      have HCS := Aside0.mk hcs
      have HCL := Aside0.mk (show cs.length ≤ 100 by rw [← hcs, cuts_len]; omega)
      clear hcs
      go_enter Tryd.func57, Tryd.ntmps57
      go_wp2_with (first | ((with_reducible refine gate_dst (N := 5) rfl ?_); refine box_event ?hg (N := 5) ?hd (cs := #[.int .i64 (x : Int), .int .i64 (y : Int), .int .i64 (a : Int), .int .i64 (b : Int)]) (t := 50) ?hr ?_; (case hd => rfl); (case hg => rfl); (case hr => first | (go_simp; done) | (go_simp; rfl)); intro g5 hg w1 hbox hb; have GE5 := Aside0.mk (show W.heap.size ≤ g5 by rw [hg]; exact (show W.grownBy _ (some M) from (show W.grownBy _ (some M) by repeat (first | (with_reducible first | exact HG.out | refine gr_alloc ?_ _ | refine gr_drewN ?_ _ | refine gr_drew ?_) | exact HG.out))).size); have BK5 := Aside0.mk hbox; have n0_ := Aside0.mk (grown_trans (show W.grownBy _ (some M) by repeat (first | (with_reducible first | exact HG.out | refine gr_alloc ?_ _ | refine gr_drewN ?_ _ | refine gr_drew ?_) | exact HG.out)) (grown_below hb (some M))); have n1_ := Aside0.mk (me_below (show Memo Tryd.prog 75 M ksR keyR (poorG l wd) _ by repeat (first | (with_reducible first | exact HM.out | refine me_alloc ?_ _ | refine me_drewN ?_ _ | refine me_drew ?_) | exact HM.out)) hb); clear HG HM; have HG := n0_; have HM := n1_; clear n0_ n1_; clear hb; have NE5 := Aside0.mk (HM.out.ne BK5.out); clear hbox hg; have h5_0_w1 : w1.cell? ⟨g5, 0, none⟩ = some (.int .i64 (x : Int)) := (blk_cell BK5.out 0).trans rfl; have f5_0_w1 : w1.frozen? ⟨g5, 0, none⟩ = false := blk_frozen BK5.out 0; have h5_1_w1 : w1.cell? ⟨g5, 1, none⟩ = some (.int .i64 (y : Int)) := (blk_cell BK5.out 1).trans rfl; have f5_1_w1 : w1.frozen? ⟨g5, 1, none⟩ = false := blk_frozen BK5.out 1; have h5_2_w1 : w1.cell? ⟨g5, 2, none⟩ = some (.int .i64 (a : Int)) := (blk_cell BK5.out 2).trans rfl; have f5_2_w1 : w1.frozen? ⟨g5, 2, none⟩ = false := blk_frozen BK5.out 2; have h5_3_w1 : w1.cell? ⟨g5, 3, none⟩ = some (.int .i64 (b : Int)) := (blk_cell BK5.out 3).trans rfl; have f5_3_w1 : w1.frozen? ⟨g5, 3, none⟩ = false := blk_frozen BK5.out 3; have hcn : w1.cell? ⟨Bn, 0, none⟩ = some (.slice A0 l.length c0) := (blk_cell (HE.out.step HG.out HM.out).bn 0).trans rfl; have hck : w1.cell? ⟨Bk, 0, none⟩ = some (.map (some M)) := (blk_cell (HE.out.step HG.out HM.out).bk 0).trans rfl) | ((at_lookup; refine wp_look rfl _ _ 72 rfl 3 law75 Tryd.underlying72 (zero3R _) rfl (show Memo Tryd.prog 75 M ksR keyR (poorG l wd) _ by repeat (first | (with_reducible first | exact HM.out | refine me_alloc ?_ _ | refine me_drewN ?_ _ | refine me_drew ?_) | exact HM.out)) ((x, y, a, b), m) _ rfl (keyR_some ((x, y, a, b), m) HK9.out HM9.out) ?_ ?_); (intro v hv; obtain rfl := hv HK9.out HM9.out HI.out)) | ((go_at_call 47; refine (impl_Bar_cuts.calls kc _ _ _ _ HCU.out).mono ?_; rintro e w5 ⟨vr, rfl, hro, hb⟩; obtain ⟨Ar, cr, er⟩ := Kd.R_slice hro; rw [List.length_map] at er; subst er; have HO := Aside0.mk (Kd.R_lower hro (Nat.zero_le _)); have n0_ := Aside0.mk (grown_trans (show W.grownBy _ (some M) by repeat (first | (with_reducible first | exact HG.out | refine gr_alloc ?_ _ | refine gr_drewN ?_ _ | refine gr_drew ?_) | exact HG.out)) (grown_below hb (some M))); have n1_ := Aside0.mk (me_below (show Memo Tryd.prog 75 M ksR keyR (poorG l wd) _ by repeat (first | (with_reducible first | exact HM.out | refine me_alloc ?_ _ | refine me_drewN ?_ _ | refine me_drew ?_) | exact HM.out)) hb); have n2_ := Aside0.mk (blk_below (g := g5) (o := .cells #[.int .i64 (x : Int), .int .i64 (y : Int), .int .i64 (a : Int), .int .i64 (b : Int)] 50 (0, 0)) (by (with_reducible repeat (first | refine blk_drewN ?_ _ | refine blk_drew ?_ | refine blk_alloc ?_ _)); exact BK5.out) hb); clear HG HM BK5; have HG := n0_; have HM := n1_; have BK5 := n2_; clear n0_ n1_ n2_; clear hb; have h5_0_w5 : w5.cell? ⟨g5, 0, none⟩ = some (.int .i64 (x : Int)) := (blk_cell BK5.out 0).trans rfl; have f5_0_w5 : w5.frozen? ⟨g5, 0, none⟩ = false := blk_frozen BK5.out 0; have h5_1_w5 : w5.cell? ⟨g5, 1, none⟩ = some (.int .i64 (y : Int)) := (blk_cell BK5.out 1).trans rfl; have f5_1_w5 : w5.frozen? ⟨g5, 1, none⟩ = false := blk_frozen BK5.out 1; have h5_2_w5 : w5.cell? ⟨g5, 2, none⟩ = some (.int .i64 (a : Int)) := (blk_cell BK5.out 2).trans rfl; have f5_2_w5 : w5.frozen? ⟨g5, 2, none⟩ = false := blk_frozen BK5.out 2; have h5_3_w5 : w5.cell? ⟨g5, 3, none⟩ = some (.int .i64 (b : Int)) := (blk_cell BK5.out 3).trans rfl; have f5_3_w5 : w5.frozen? ⟨g5, 3, none⟩ = false := blk_frozen BK5.out 3; clear hro)))
      · go_ret
        exact ⟨rfl, HG.out, HE.out.step HG.out HM.out⟩
      · have HE5 := Aside0.mk (HE.out.step HG.out HM.out)
        have HM5 := HM
        have HG5 := HG
        have HO5 := HO
        have BK55 := BK5
        have NE5 := Aside0.mk (HM.out.ne BK5.out)
        clear HO HG HM BK5 hck hcn
        try clear hcn
        try clear h5_0_w1 f5_0_w1
        try clear h5_1_w1 f5_1_w1
        try clear h5_2_w1 f5_2_w1
        try clear h5_3_w1 f5_3_w1
        try clear h5_0_w5 f5_0_w5
        try clear h5_1_w5 f5_1_w5
        try clear h5_2_w5 f5_2_w5
        try clear h5_3_w5 f5_3_w5
        go_loopg [10, 35] (cs.length + 1) (fun kq v10 v35 w' => ∃ (n : Nat) (bst : Int), v10 = .int .i64 bst ∧ v35 = .int .i64 (n : Int) ∧ Aside0 (bst = poorUp l (x, y, a, b) m cs n) ∧ Aside0 (n ≤ cs.length) ∧ Aside0 (cs.length - n ≤ kq) ∧ Aside0 (w5.grownBy w' (some M)) ∧ Aside0 (Memo Tryd.prog 75 M ksR keyR (poorG l wd) w') ∧ Aside0 (w'.heap[g5]? = some (.cells #[.int .i64 (x : Int), .int .i64 (y : Int), .int .i64 (a : Int), .int .i64 (b : Int)] 50 (0, 0))))
        case atStart => exact ⟨0, _, rfl, rfl, ⟨rfl⟩, ⟨Nat.zero_le _⟩, ⟨by omega⟩, ⟨World.grownBy.refl _ _⟩, HM5, BK55⟩
        case round =>
          clear e1 e1d HCU
          obtain ⟨n, bst, rfl, rfl, HBS, hn, hq, HQ, HM, BK5⟩ := hrel
          by_cases hlt : n < cs.length
          · have c0 : decide ((n : Int) < (cs.length : Int)) = true := decide_eq_true (by omega)
            have c00 : decide (n < cs.length) = true := decide_eq_true hlt
            have p0 : (0 : Int) ≤ (n : Int) := by omega
            have q0 : (n : Int) < (cs.length : Int) := by omega
            have q00 : n < cs.length := hlt
            obtain ⟨ad, ead, hx0, hx1⟩ := at_T58 (Kd.R_reads' (R_memoR HO5.out HM5.out HQ.out)).2.2 (n : Int) (by omega) (by rw [List.length_map]; omega)
            subst ead
            rw [rd_cuts _ n hlt] at hx0 hx1
            rw [Int.toNat_natCast] at hx0 hx1
            have HNX := poorUp_succ l (x, y, a, b) m cs n hlt
            have hmem : cs[n] ∈ cs := List.getElem_mem hlt
            obtain ⟨⟨v, p⟩, hvp⟩ : ∃ c, cs[n] = c := ⟨_, rfl⟩
            rw [hvp] at hx0 hx1 HNX hmem
            replace hx0 : wr.cell? (ad.add (n * 2)) = some (.bool v) := hx0
            replace hx1 : wr.cell? ⟨(ad.add (n * 2)).block, (ad.add (n * 2)).off + 1, none⟩ = some (.int .i64 (p : Int)) := hx1
            rw [← HCS.out] at hmem
            have BR := broken_part (w := wd) (h := l.length) (by omega) (by omega) HI.out hmem
            have I1 := HI.out.one hmem
            have I2 := HI.out.two hmem
            obtain ⟨⟨x1, y1, a1, b1⟩, hq1⟩ : ∃ q, oneP (x, y, a, b) (v, p) = q := ⟨_, rfl⟩
            obtain ⟨⟨x2, y2, a2, b2⟩, hq2⟩ : ∃ q, twoP (x, y, a, b) (v, p) = q := ⟨_, rfl⟩
            rw [hq1] at BR I1
            rw [hq2] at BR I2
            have HQ1 := Aside0.mk hq1
            have HQ2 := Aside0.mk hq2
            have HNXT := Aside0.mk HNX
            have S1 := Aside0.mk (show a1 + b1 ≤ s by have := I1.2; simp only [siz] at this; omega)
            have S2 := Aside0.mk (show a2 + b2 ≤ s by have := I2.2; simp only [siz] at this; omega)
            have J1 := Aside0.mk I1.1
            have J2 := Aside0.mk I2.1
            have HBR := Aside0.mk BR
            have HLT := Aside0.mk hlt
            have HQQ := Aside0.mk (show cs.length - (n + 1) ≤ gk - 1 ∧ 0 < gk by have := hq.out; omega)
            clear HNX I1 I2 BR hq1 hq2 hmem hvp hlt hn hq
            go_wp2_with (first | ((with_reducible refine gate_dst (N := 12) rfl ?_); refine box_event ?hg (N := 12) ?hd (cs := #[.bool false, .int .i64 0]) (t := 58) ?hr ?_; (case hd => rfl); (case hg => rfl); (case hr => first | (go_simp; done) | (go_simp; rfl)); intro g12 hg w6 hbox hb; have GE12 := Aside0.mk (show w5.heap.size ≤ g12 by rw [hg]; exact (show w5.grownBy _ (some M) from (show w5.grownBy _ (some M) by repeat (first | (with_reducible first | exact HQ.out | refine gr_alloc ?_ _ | refine gr_drewN ?_ _ | refine gr_drew ?_) | exact HQ.out))).size); have NB5_12 := Aside0.mk (show g5 ≠ g12 by rw [hg]; exact Nat.ne_of_lt (blk_lt (g := g5) (o := .cells #[.int .i64 (x : Int), .int .i64 (y : Int), .int .i64 (a : Int), .int .i64 (b : Int)] 50 (0, 0)) (by (with_reducible repeat (first | refine blk_drewN ?_ _ | refine blk_drew ?_ | refine blk_alloc ?_ _)); exact BK5.out))); have BK12 := Aside0.mk hbox; have n0_ := Aside0.mk (grown_trans (show w5.grownBy _ (some M) by repeat (first | (with_reducible first | exact HQ.out | refine gr_alloc ?_ _ | refine gr_drewN ?_ _ | refine gr_drew ?_) | exact HQ.out)) (grown_below hb (some M))); have n1_ := Aside0.mk (me_below (show Memo Tryd.prog 75 M ksR keyR (poorG l wd) _ by repeat (first | (with_reducible first | exact HM.out | refine me_alloc ?_ _ | refine me_drewN ?_ _ | refine me_drew ?_) | exact HM.out)) hb); have n2_ := Aside0.mk (blk_below (g := g5) (o := .cells #[.int .i64 (x : Int), .int .i64 (y : Int), .int .i64 (a : Int), .int .i64 (b : Int)] 50 (0, 0)) (by (with_reducible repeat (first | refine blk_drewN ?_ _ | refine blk_drew ?_ | refine blk_alloc ?_ _)); exact BK5.out) hb); clear HQ HM BK5; have HQ := n0_; have HM := n1_; have BK5 := n2_; clear n0_ n1_ n2_; clear hb; have h5_0_w6 : w6.cell? ⟨g5, 0, none⟩ = some (.int .i64 (x : Int)) := (blk_cell BK5.out 0).trans rfl; have f5_0_w6 : w6.frozen? ⟨g5, 0, none⟩ = false := blk_frozen BK5.out 0; have h5_1_w6 : w6.cell? ⟨g5, 1, none⟩ = some (.int .i64 (y : Int)) := (blk_cell BK5.out 1).trans rfl; have f5_1_w6 : w6.frozen? ⟨g5, 1, none⟩ = false := blk_frozen BK5.out 1; have h5_2_w6 : w6.cell? ⟨g5, 2, none⟩ = some (.int .i64 (a : Int)) := (blk_cell BK5.out 2).trans rfl; have f5_2_w6 : w6.frozen? ⟨g5, 2, none⟩ = false := blk_frozen BK5.out 2; have h5_3_w6 : w6.cell? ⟨g5, 3, none⟩ = some (.int .i64 (b : Int)) := (blk_cell BK5.out 3).trans rfl; have f5_3_w6 : w6.frozen? ⟨g5, 3, none⟩ = false := blk_frozen BK5.out 3; have NE12 := Aside0.mk (HM.out.ne BK12.out); clear hbox hg; have h12_0_w6 : w6.cell? ⟨g12, 0, none⟩ = some (.bool false) := (blk_cell BK12.out 0).trans rfl; have f12_0_w6 : w6.frozen? ⟨g12, 0, none⟩ = false := blk_frozen BK12.out 0; have h12_1_w6 : w6.cell? ⟨g12, 1, none⟩ = some (.int .i64 0) := (blk_cell BK12.out 1).trans rfl; have f12_1_w6 : w6.frozen? ⟨g12, 1, none⟩ = false := blk_frozen BK12.out 1) | ((with_reducible refine gate_store (t := 58) (p := 12) rfl ?_); refine store_event (t := 58) (p := 12) (v := ?vo_w7) (w1 := ((w6.setCell ⟨g12, 0, none⟩ (.bool v)).setCell ⟨g12, 1, none⟩ (.int .i64 (p : Int)))) ?hg ?ho ?hn ?hr ?_; (case ho => rfl); (case hg => rfl); (case hn => rfl); (case hr => first | (go_simp; done) | (go_simp; rfl)); intro w7 hw; have n0_ := Aside0.mk (show w5.grownBy w7 (some M) by rw [hw]; exact (grown_set (grown_set HQ.out GE12.out _ _) GE12.out _ _)); have n1_ := Aside0.mk (show Memo Tryd.prog 75 M ksR keyR (poorG l wd) w7 by rw [hw]; exact (me_set (me_set HM.out NE12.out _ _) NE12.out _ _)); have n2_ := Aside0.mk (show w7.heap[g12]? = some (.cells #[.bool v, .int .i64 (p : Int)] 58 (0, 0)) by rw [hw]; exact (blk_put (cs' := #[.bool v, .int .i64 (p : Int)]) (blk_put (cs' := #[.bool v, .int .i64 0]) BK12.out 0 _ rfl) 1 _ rfl)); have n3_ := Aside0.mk (show w7.heap[g5]? = some (.cells #[.int .i64 (x : Int), .int .i64 (y : Int), .int .i64 (a : Int), .int .i64 (b : Int)] 50 (0, 0)) by rw [hw]; exact (blk_far (blk_far BK5.out NB5_12.out _) NB5_12.out _)); clear HQ HM BK12 BK5; have HQ := n0_; have HM := n1_; have BK12 := n2_; have BK5 := n3_; clear n0_ n1_ n2_ n3_; clear hw; have h5_0_w7 : w7.cell? ⟨g5, 0, none⟩ = some (.int .i64 (x : Int)) := (blk_cell BK5.out 0).trans rfl; have f5_0_w7 : w7.frozen? ⟨g5, 0, none⟩ = false := blk_frozen BK5.out 0; have h5_1_w7 : w7.cell? ⟨g5, 1, none⟩ = some (.int .i64 (y : Int)) := (blk_cell BK5.out 1).trans rfl; have f5_1_w7 : w7.frozen? ⟨g5, 1, none⟩ = false := blk_frozen BK5.out 1; have h5_2_w7 : w7.cell? ⟨g5, 2, none⟩ = some (.int .i64 (a : Int)) := (blk_cell BK5.out 2).trans rfl; have f5_2_w7 : w7.frozen? ⟨g5, 2, none⟩ = false := blk_frozen BK5.out 2; have h5_3_w7 : w7.cell? ⟨g5, 3, none⟩ = some (.int .i64 (b : Int)) := (blk_cell BK5.out 3).trans rfl; have f5_3_w7 : w7.frozen? ⟨g5, 3, none⟩ = false := blk_frozen BK5.out 3; have h12_0_w7 : w7.cell? ⟨g12, 0, none⟩ = some (.bool v) := (blk_cell BK12.out 0).trans rfl; have f12_0_w7 : w7.frozen? ⟨g12, 0, none⟩ = false := blk_frozen BK12.out 0; have h12_1_w7 : w7.cell? ⟨g12, 1, none⟩ = some (.int .i64 (p : Int)) := (blk_cell BK12.out 1).trans rfl; have f12_1_w7 : w7.frozen? ⟨g12, 1, none⟩ = false := blk_frozen BK12.out 1) | ((go_at_call 58; refine (impl_part_broken.calls _ _ _ _ _ _ _ _ _ _ _ _ _ _ _ HBR.out).mono ?_; rintro e w8 ⟨rfl, hb⟩; have n0_ := Aside0.mk (grown_trans (show w5.grownBy _ (some M) by repeat (first | (with_reducible first | exact HQ.out | refine gr_alloc ?_ _ | refine gr_drewN ?_ _ | refine gr_drew ?_) | exact HQ.out)) (grown_below hb (some M))); have n1_ := Aside0.mk (me_below (show Memo Tryd.prog 75 M ksR keyR (poorG l wd) _ by repeat (first | (with_reducible first | exact HM.out | refine me_alloc ?_ _ | refine me_drewN ?_ _ | refine me_drew ?_) | exact HM.out)) hb); have n2_ := Aside0.mk (blk_below (g := g5) (o := .cells #[.int .i64 (x : Int), .int .i64 (y : Int), .int .i64 (a : Int), .int .i64 (b : Int)] 50 (0, 0)) (by (with_reducible repeat (first | refine blk_drewN ?_ _ | refine blk_drew ?_ | refine blk_alloc ?_ _)); exact BK5.out) hb); have n3_ := Aside0.mk (blk_below (g := g12) (o := .cells #[.bool v, .int .i64 (p : Int)] 58 (0, 0)) (by (with_reducible repeat (first | refine blk_drewN ?_ _ | refine blk_drew ?_ | refine blk_alloc ?_ _)); exact BK12.out) hb); clear HQ HM BK5 BK12; have HQ := n0_; have HM := n1_; have BK5 := n2_; have BK12 := n3_; clear n0_ n1_ n2_ n3_; clear hb; have h5_0_w8 : w8.cell? ⟨g5, 0, none⟩ = some (.int .i64 (x : Int)) := (blk_cell BK5.out 0).trans rfl; have f5_0_w8 : w8.frozen? ⟨g5, 0, none⟩ = false := blk_frozen BK5.out 0; have h5_1_w8 : w8.cell? ⟨g5, 1, none⟩ = some (.int .i64 (y : Int)) := (blk_cell BK5.out 1).trans rfl; have f5_1_w8 : w8.frozen? ⟨g5, 1, none⟩ = false := blk_frozen BK5.out 1; have h5_2_w8 : w8.cell? ⟨g5, 2, none⟩ = some (.int .i64 (a : Int)) := (blk_cell BK5.out 2).trans rfl; have f5_2_w8 : w8.frozen? ⟨g5, 2, none⟩ = false := blk_frozen BK5.out 2; have h5_3_w8 : w8.cell? ⟨g5, 3, none⟩ = some (.int .i64 (b : Int)) := (blk_cell BK5.out 3).trans rfl; have f5_3_w8 : w8.frozen? ⟨g5, 3, none⟩ = false := blk_frozen BK5.out 3; have h12_0_w8 : w8.cell? ⟨g12, 0, none⟩ = some (.bool v) := (blk_cell BK12.out 0).trans rfl; have f12_0_w8 : w8.frozen? ⟨g12, 0, none⟩ = false := blk_frozen BK12.out 0; have h12_1_w8 : w8.cell? ⟨g12, 1, none⟩ = some (.int .i64 (p : Int)) := (blk_cell BK12.out 1).trans rfl; have f12_1_w8 : w8.frozen? ⟨g12, 1, none⟩ = false := blk_frozen BK12.out 1)) | ((with_reducible refine gate_dst (N := 13) rfl ?_); refine box_event ?hg (N := 13) ?hd (cs := #[.int .i64 0, .int .i64 0, .int .i64 0, .int .i64 0]) (t := 50) ?hr ?_; (case hd => rfl); (case hg => rfl); (case hr => first | (go_simp; done) | (go_simp; rfl)); intro g13 hg w9 hbox hb; have GE13 := Aside0.mk (show w5.heap.size ≤ g13 by rw [hg]; exact (show w5.grownBy _ (some M) from (show w5.grownBy _ (some M) by repeat (first | (with_reducible first | exact HQ.out | refine gr_alloc ?_ _ | refine gr_drewN ?_ _ | refine gr_drew ?_) | exact HQ.out))).size); have NB5_13 := Aside0.mk (show g5 ≠ g13 by rw [hg]; exact Nat.ne_of_lt (blk_lt (g := g5) (o := .cells #[.int .i64 (x : Int), .int .i64 (y : Int), .int .i64 (a : Int), .int .i64 (b : Int)] 50 (0, 0)) (by (with_reducible repeat (first | refine blk_drewN ?_ _ | refine blk_drew ?_ | refine blk_alloc ?_ _)); exact BK5.out))); have NB12_13 := Aside0.mk (show g12 ≠ g13 by rw [hg]; exact Nat.ne_of_lt (blk_lt (g := g12) (o := .cells #[.bool v, .int .i64 (p : Int)] 58 (0, 0)) (by (with_reducible repeat (first | refine blk_drewN ?_ _ | refine blk_drew ?_ | refine blk_alloc ?_ _)); exact BK12.out))); have BK13 := Aside0.mk hbox; have n0_ := Aside0.mk (grown_trans (show w5.grownBy _ (some M) by repeat (first | (with_reducible first | exact HQ.out | refine gr_alloc ?_ _ | refine gr_drewN ?_ _ | refine gr_drew ?_) | exact HQ.out)) (grown_below hb (some M))); have n1_ := Aside0.mk (me_below (show Memo Tryd.prog 75 M ksR keyR (poorG l wd) _ by repeat (first | (with_reducible first | exact HM.out | refine me_alloc ?_ _ | refine me_drewN ?_ _ | refine me_drew ?_) | exact HM.out)) hb); have n2_ := Aside0.mk (blk_below (g := g5) (o := .cells #[.int .i64 (x : Int), .int .i64 (y : Int), .int .i64 (a : Int), .int .i64 (b : Int)] 50 (0, 0)) (by (with_reducible repeat (first | refine blk_drewN ?_ _ | refine blk_drew ?_ | refine blk_alloc ?_ _)); exact BK5.out) hb); have n3_ := Aside0.mk (blk_below (g := g12) (o := .cells #[.bool v, .int .i64 (p : Int)] 58 (0, 0)) (by (with_reducible repeat (first | refine blk_drewN ?_ _ | refine blk_drew ?_ | refine blk_alloc ?_ _)); exact BK12.out) hb); clear HQ HM BK5 BK12; have HQ := n0_; have HM := n1_; have BK5 := n2_; have BK12 := n3_; clear n0_ n1_ n2_ n3_; clear hb; have h5_0_w9 : w9.cell? ⟨g5, 0, none⟩ = some (.int .i64 (x : Int)) := (blk_cell BK5.out 0).trans rfl; have f5_0_w9 : w9.frozen? ⟨g5, 0, none⟩ = false := blk_frozen BK5.out 0; have h5_1_w9 : w9.cell? ⟨g5, 1, none⟩ = some (.int .i64 (y : Int)) := (blk_cell BK5.out 1).trans rfl; have f5_1_w9 : w9.frozen? ⟨g5, 1, none⟩ = false := blk_frozen BK5.out 1; have h5_2_w9 : w9.cell? ⟨g5, 2, none⟩ = some (.int .i64 (a : Int)) := (blk_cell BK5.out 2).trans rfl; have f5_2_w9 : w9.frozen? ⟨g5, 2, none⟩ = false := blk_frozen BK5.out 2; have h5_3_w9 : w9.cell? ⟨g5, 3, none⟩ = some (.int .i64 (b : Int)) := (blk_cell BK5.out 3).trans rfl; have f5_3_w9 : w9.frozen? ⟨g5, 3, none⟩ = false := blk_frozen BK5.out 3; have h12_0_w9 : w9.cell? ⟨g12, 0, none⟩ = some (.bool v) := (blk_cell BK12.out 0).trans rfl; have f12_0_w9 : w9.frozen? ⟨g12, 0, none⟩ = false := blk_frozen BK12.out 0; have h12_1_w9 : w9.cell? ⟨g12, 1, none⟩ = some (.int .i64 (p : Int)) := (blk_cell BK12.out 1).trans rfl; have f12_1_w9 : w9.frozen? ⟨g12, 1, none⟩ = false := blk_frozen BK12.out 1; have NE13 := Aside0.mk (HM.out.ne BK13.out); clear hbox hg; have h13_0_w9 : w9.cell? ⟨g13, 0, none⟩ = some (.int .i64 0) := (blk_cell BK13.out 0).trans rfl; have f13_0_w9 : w9.frozen? ⟨g13, 0, none⟩ = false := blk_frozen BK13.out 0; have h13_1_w9 : w9.cell? ⟨g13, 1, none⟩ = some (.int .i64 0) := (blk_cell BK13.out 1).trans rfl; have f13_1_w9 : w9.frozen? ⟨g13, 1, none⟩ = false := blk_frozen BK13.out 1; have h13_2_w9 : w9.cell? ⟨g13, 2, none⟩ = some (.int .i64 0) := (blk_cell BK13.out 2).trans rfl; have f13_2_w9 : w9.frozen? ⟨g13, 2, none⟩ = false := blk_frozen BK13.out 2; have h13_3_w9 : w9.cell? ⟨g13, 3, none⟩ = some (.int .i64 0) := (blk_cell BK13.out 3).trans rfl; have f13_3_w9 : w9.frozen? ⟨g13, 3, none⟩ = false := blk_frozen BK13.out 3) | ((with_reducible refine gate_dst (N := 14) rfl ?_); refine box_event ?hg (N := 14) ?hd (cs := #[.int .i64 0, .int .i64 0, .int .i64 0, .int .i64 0]) (t := 50) ?hr ?_; (case hd => rfl); (case hg => rfl); (case hr => first | (go_simp; done) | (go_simp; rfl)); intro g14 hg w10 hbox hb; have GE14 := Aside0.mk (show w5.heap.size ≤ g14 by rw [hg]; exact (show w5.grownBy _ (some M) from (show w5.grownBy _ (some M) by repeat (first | (with_reducible first | exact HQ.out | refine gr_alloc ?_ _ | refine gr_drewN ?_ _ | refine gr_drew ?_) | exact HQ.out))).size); have NB5_14 := Aside0.mk (show g5 ≠ g14 by rw [hg]; exact Nat.ne_of_lt (blk_lt (g := g5) (o := .cells #[.int .i64 (x : Int), .int .i64 (y : Int), .int .i64 (a : Int), .int .i64 (b : Int)] 50 (0, 0)) (by (with_reducible repeat (first | refine blk_drewN ?_ _ | refine blk_drew ?_ | refine blk_alloc ?_ _)); exact BK5.out))); have NB12_14 := Aside0.mk (show g12 ≠ g14 by rw [hg]; exact Nat.ne_of_lt (blk_lt (g := g12) (o := .cells #[.bool v, .int .i64 (p : Int)] 58 (0, 0)) (by (with_reducible repeat (first | refine blk_drewN ?_ _ | refine blk_drew ?_ | refine blk_alloc ?_ _)); exact BK12.out))); have NB13_14 := Aside0.mk (show g13 ≠ g14 by rw [hg]; exact Nat.ne_of_lt (blk_lt (g := g13) (o := .cells #[.int .i64 0, .int .i64 0, .int .i64 0, .int .i64 0] 50 (0, 0)) (by (with_reducible repeat (first | refine blk_drewN ?_ _ | refine blk_drew ?_ | refine blk_alloc ?_ _)); exact BK13.out))); have BK14 := Aside0.mk hbox; have n0_ := Aside0.mk (grown_trans (show w5.grownBy _ (some M) by repeat (first | (with_reducible first | exact HQ.out | refine gr_alloc ?_ _ | refine gr_drewN ?_ _ | refine gr_drew ?_) | exact HQ.out)) (grown_below hb (some M))); have n1_ := Aside0.mk (me_below (show Memo Tryd.prog 75 M ksR keyR (poorG l wd) _ by repeat (first | (with_reducible first | exact HM.out | refine me_alloc ?_ _ | refine me_drewN ?_ _ | refine me_drew ?_) | exact HM.out)) hb); have n2_ := Aside0.mk (blk_below (g := g5) (o := .cells #[.int .i64 (x : Int), .int .i64 (y : Int), .int .i64 (a : Int), .int .i64 (b : Int)] 50 (0, 0)) (by (with_reducible repeat (first | refine blk_drewN ?_ _ | refine blk_drew ?_ | refine blk_alloc ?_ _)); exact BK5.out) hb); have n3_ := Aside0.mk (blk_below (g := g12) (o := .cells #[.bool v, .int .i64 (p : Int)] 58 (0, 0)) (by (with_reducible repeat (first | refine blk_drewN ?_ _ | refine blk_drew ?_ | refine blk_alloc ?_ _)); exact BK12.out) hb); have n4_ := Aside0.mk (blk_below (g := g13) (o := .cells #[.int .i64 0, .int .i64 0, .int .i64 0, .int .i64 0] 50 (0, 0)) (by (with_reducible repeat (first | refine blk_drewN ?_ _ | refine blk_drew ?_ | refine blk_alloc ?_ _)); exact BK13.out) hb); clear HQ HM BK5 BK12 BK13; have HQ := n0_; have HM := n1_; have BK5 := n2_; have BK12 := n3_; have BK13 := n4_; clear n0_ n1_ n2_ n3_ n4_; clear hb; have h5_0_w10 : w10.cell? ⟨g5, 0, none⟩ = some (.int .i64 (x : Int)) := (blk_cell BK5.out 0).trans rfl; have f5_0_w10 : w10.frozen? ⟨g5, 0, none⟩ = false := blk_frozen BK5.out 0; have h5_1_w10 : w10.cell? ⟨g5, 1, none⟩ = some (.int .i64 (y : Int)) := (blk_cell BK5.out 1).trans rfl; have f5_1_w10 : w10.frozen? ⟨g5, 1, none⟩ = false := blk_frozen BK5.out 1; have h5_2_w10 : w10.cell? ⟨g5, 2, none⟩ = some (.int .i64 (a : Int)) := (blk_cell BK5.out 2).trans rfl; have f5_2_w10 : w10.frozen? ⟨g5, 2, none⟩ = false := blk_frozen BK5.out 2; have h5_3_w10 : w10.cell? ⟨g5, 3, none⟩ = some (.int .i64 (b : Int)) := (blk_cell BK5.out 3).trans rfl; have f5_3_w10 : w10.frozen? ⟨g5, 3, none⟩ = false := blk_frozen BK5.out 3; have h12_0_w10 : w10.cell? ⟨g12, 0, none⟩ = some (.bool v) := (blk_cell BK12.out 0).trans rfl; have f12_0_w10 : w10.frozen? ⟨g12, 0, none⟩ = false := blk_frozen BK12.out 0; have h12_1_w10 : w10.cell? ⟨g12, 1, none⟩ = some (.int .i64 (p : Int)) := (blk_cell BK12.out 1).trans rfl; have f12_1_w10 : w10.frozen? ⟨g12, 1, none⟩ = false := blk_frozen BK12.out 1; have h13_0_w10 : w10.cell? ⟨g13, 0, none⟩ = some (.int .i64 0) := (blk_cell BK13.out 0).trans rfl; have f13_0_w10 : w10.frozen? ⟨g13, 0, none⟩ = false := blk_frozen BK13.out 0; have h13_1_w10 : w10.cell? ⟨g13, 1, none⟩ = some (.int .i64 0) := (blk_cell BK13.out 1).trans rfl; have f13_1_w10 : w10.frozen? ⟨g13, 1, none⟩ = false := blk_frozen BK13.out 1; have h13_2_w10 : w10.cell? ⟨g13, 2, none⟩ = some (.int .i64 0) := (blk_cell BK13.out 2).trans rfl; have f13_2_w10 : w10.frozen? ⟨g13, 2, none⟩ = false := blk_frozen BK13.out 2; have h13_3_w10 : w10.cell? ⟨g13, 3, none⟩ = some (.int .i64 0) := (blk_cell BK13.out 3).trans rfl; have f13_3_w10 : w10.frozen? ⟨g13, 3, none⟩ = false := blk_frozen BK13.out 3; have NE14 := Aside0.mk (HM.out.ne BK14.out); clear hbox hg; have h14_0_w10 : w10.cell? ⟨g14, 0, none⟩ = some (.int .i64 0) := (blk_cell BK14.out 0).trans rfl; have f14_0_w10 : w10.frozen? ⟨g14, 0, none⟩ = false := blk_frozen BK14.out 0; have h14_1_w10 : w10.cell? ⟨g14, 1, none⟩ = some (.int .i64 0) := (blk_cell BK14.out 1).trans rfl; have f14_1_w10 : w10.frozen? ⟨g14, 1, none⟩ = false := blk_frozen BK14.out 1; have h14_2_w10 : w10.cell? ⟨g14, 2, none⟩ = some (.int .i64 0) := (blk_cell BK14.out 2).trans rfl; have f14_2_w10 : w10.frozen? ⟨g14, 2, none⟩ = false := blk_frozen BK14.out 2; have h14_3_w10 : w10.cell? ⟨g14, 3, none⟩ = some (.int .i64 0) := (blk_cell BK14.out 3).trans rfl; have f14_3_w10 : w10.frozen? ⟨g14, 3, none⟩ = false := blk_frozen BK14.out 3) | ((with_reducible refine gate_store (t := 50) (p := 13) rfl ?_); refine store_event (t := 50) (p := 13) (v := ?vo_w11) (w1 := ((((w10.setCell ⟨g13, 0, none⟩ (.int .i64 (x1 : Int))).setCell ⟨g13, 1, none⟩ (.int .i64 (y1 : Int))).setCell ⟨g13, 2, none⟩ (.int .i64 (a1 : Int))).setCell ⟨g13, 3, none⟩ (.int .i64 (b1 : Int)))) ?hg ?ho ?hn ?hr ?_; (case ho => rfl); (case hg => rfl); (case hn => rfl); (case hr => first | (go_simp; done) | (go_simp; rfl)); intro w11 hw; have n0_ := Aside0.mk (show w5.grownBy w11 (some M) by rw [hw]; exact (grown_set (grown_set (grown_set (grown_set HQ.out GE13.out _ _) GE13.out _ _) GE13.out _ _) GE13.out _ _)); have n1_ := Aside0.mk (show Memo Tryd.prog 75 M ksR keyR (poorG l wd) w11 by rw [hw]; exact (me_set (me_set (me_set (me_set HM.out NE13.out _ _) NE13.out _ _) NE13.out _ _) NE13.out _ _)); have n2_ := Aside0.mk (show w11.heap[g13]? = some (.cells #[.int .i64 (x1 : Int), .int .i64 (y1 : Int), .int .i64 (a1 : Int), .int .i64 (b1 : Int)] 50 (0, 0)) by rw [hw]; exact (blk_put (cs' := #[.int .i64 (x1 : Int), .int .i64 (y1 : Int), .int .i64 (a1 : Int), .int .i64 (b1 : Int)]) (blk_put (cs' := #[.int .i64 (x1 : Int), .int .i64 (y1 : Int), .int .i64 (a1 : Int), .int .i64 0]) (blk_put (cs' := #[.int .i64 (x1 : Int), .int .i64 (y1 : Int), .int .i64 0, .int .i64 0]) (blk_put (cs' := #[.int .i64 (x1 : Int), .int .i64 0, .int .i64 0, .int .i64 0]) BK13.out 0 _ rfl) 1 _ rfl) 2 _ rfl) 3 _ rfl)); have n3_ := Aside0.mk (show w11.heap[g5]? = some (.cells #[.int .i64 (x : Int), .int .i64 (y : Int), .int .i64 (a : Int), .int .i64 (b : Int)] 50 (0, 0)) by rw [hw]; exact (blk_far (blk_far (blk_far (blk_far BK5.out NB5_13.out _) NB5_13.out _) NB5_13.out _) NB5_13.out _)); have n4_ := Aside0.mk (show w11.heap[g12]? = some (.cells #[.bool v, .int .i64 (p : Int)] 58 (0, 0)) by rw [hw]; exact (blk_far (blk_far (blk_far (blk_far BK12.out NB12_13.out _) NB12_13.out _) NB12_13.out _) NB12_13.out _)); have n5_ := Aside0.mk (show w11.heap[g14]? = some (.cells #[.int .i64 0, .int .i64 0, .int .i64 0, .int .i64 0] 50 (0, 0)) by rw [hw]; exact (blk_far (blk_far (blk_far (blk_far BK14.out (Ne.symm NB13_14.out) _) (Ne.symm NB13_14.out) _) (Ne.symm NB13_14.out) _) (Ne.symm NB13_14.out) _)); clear HQ HM BK13 BK5 BK12 BK14; have HQ := n0_; have HM := n1_; have BK13 := n2_; have BK5 := n3_; have BK12 := n4_; have BK14 := n5_; clear n0_ n1_ n2_ n3_ n4_ n5_; clear hw; have h14_0_w11 : w11.cell? ⟨g14, 0, none⟩ = some (.int .i64 0) := (blk_cell BK14.out 0).trans rfl; have f14_0_w11 : w11.frozen? ⟨g14, 0, none⟩ = false := blk_frozen BK14.out 0; have h14_1_w11 : w11.cell? ⟨g14, 1, none⟩ = some (.int .i64 0) := (blk_cell BK14.out 1).trans rfl; have f14_1_w11 : w11.frozen? ⟨g14, 1, none⟩ = false := blk_frozen BK14.out 1; have h14_2_w11 : w11.cell? ⟨g14, 2, none⟩ = some (.int .i64 0) := (blk_cell BK14.out 2).trans rfl; have f14_2_w11 : w11.frozen? ⟨g14, 2, none⟩ = false := blk_frozen BK14.out 2; have h14_3_w11 : w11.cell? ⟨g14, 3, none⟩ = some (.int .i64 0) := (blk_cell BK14.out 3).trans rfl; have f14_3_w11 : w11.frozen? ⟨g14, 3, none⟩ = false := blk_frozen BK14.out 3) | ((with_reducible refine gate_store (t := 50) (p := 14) rfl ?_); refine store_event (t := 50) (p := 14) (v := ?vo_w12) (w1 := ((((w11.setCell ⟨g14, 0, none⟩ (.int .i64 (x2 : Int))).setCell ⟨g14, 1, none⟩ (.int .i64 (y2 : Int))).setCell ⟨g14, 2, none⟩ (.int .i64 (a2 : Int))).setCell ⟨g14, 3, none⟩ (.int .i64 (b2 : Int)))) ?hg ?ho ?hn ?hr ?_; (case ho => rfl); (case hg => rfl); (case hn => rfl); (case hr => first | (go_simp; done) | (go_simp; rfl)); intro w12 hw; have n0_ := Aside0.mk (show w5.grownBy w12 (some M) by rw [hw]; exact (grown_set (grown_set (grown_set (grown_set HQ.out GE14.out _ _) GE14.out _ _) GE14.out _ _) GE14.out _ _)); have n1_ := Aside0.mk (show Memo Tryd.prog 75 M ksR keyR (poorG l wd) w12 by rw [hw]; exact (me_set (me_set (me_set (me_set HM.out NE14.out _ _) NE14.out _ _) NE14.out _ _) NE14.out _ _)); have n2_ := Aside0.mk (show w12.heap[g14]? = some (.cells #[.int .i64 (x2 : Int), .int .i64 (y2 : Int), .int .i64 (a2 : Int), .int .i64 (b2 : Int)] 50 (0, 0)) by rw [hw]; exact (blk_put (cs' := #[.int .i64 (x2 : Int), .int .i64 (y2 : Int), .int .i64 (a2 : Int), .int .i64 (b2 : Int)]) (blk_put (cs' := #[.int .i64 (x2 : Int), .int .i64 (y2 : Int), .int .i64 (a2 : Int), .int .i64 0]) (blk_put (cs' := #[.int .i64 (x2 : Int), .int .i64 (y2 : Int), .int .i64 0, .int .i64 0]) (blk_put (cs' := #[.int .i64 (x2 : Int), .int .i64 0, .int .i64 0, .int .i64 0]) BK14.out 0 _ rfl) 1 _ rfl) 2 _ rfl) 3 _ rfl)); have n3_ := Aside0.mk (show w12.heap[g5]? = some (.cells #[.int .i64 (x : Int), .int .i64 (y : Int), .int .i64 (a : Int), .int .i64 (b : Int)] 50 (0, 0)) by rw [hw]; exact (blk_far (blk_far (blk_far (blk_far BK5.out NB5_14.out _) NB5_14.out _) NB5_14.out _) NB5_14.out _)); have n4_ := Aside0.mk (show w12.heap[g12]? = some (.cells #[.bool v, .int .i64 (p : Int)] 58 (0, 0)) by rw [hw]; exact (blk_far (blk_far (blk_far (blk_far BK12.out NB12_14.out _) NB12_14.out _) NB12_14.out _) NB12_14.out _)); have n5_ := Aside0.mk (show w12.heap[g13]? = some (.cells #[.int .i64 (x1 : Int), .int .i64 (y1 : Int), .int .i64 (a1 : Int), .int .i64 (b1 : Int)] 50 (0, 0)) by rw [hw]; exact (blk_far (blk_far (blk_far (blk_far BK13.out NB13_14.out _) NB13_14.out _) NB13_14.out _) NB13_14.out _)); clear HQ HM BK14 BK5 BK12 BK13; have HQ := n0_; have HM := n1_; have BK14 := n2_; have BK5 := n3_; have BK12 := n4_; have BK13 := n5_; clear n0_ n1_ n2_ n3_ n4_ n5_; clear hw))
            go_loopg [10, 15] m (fun kj v10 v15 w' => ∃ (j : Nat) (bs2 : Int), v10 = .int .i64 bs2 ∧ v15 = .int .i64 ((j : Int) + 1) ∧ Aside0 (bs2 = poorIn (poor l) (x, y, a, b) m (v, p) bst j) ∧ Aside0 (j ≤ m - 1) ∧ Aside0 (m - 1 - j ≤ kj) ∧ Aside0 (w5.grownBy w' (some M)) ∧ Aside0 (Memo Tryd.prog 75 M ksR keyR (poorG l wd) w') ∧ Aside0 (w'.heap[g5]? = some (.cells #[.int .i64 (x : Int), .int .i64 (y : Int), .int .i64 (a : Int), .int .i64 (b : Int)] 50 (0, 0))) ∧ Aside0 (w'.heap[g13]? = some (.cells #[.int .i64 (x1 : Int), .int .i64 (y1 : Int), .int .i64 (a1 : Int), .int .i64 (b1 : Int)] 50 (0, 0))) ∧ Aside0 (w'.heap[g14]? = some (.cells #[.int .i64 (x2 : Int), .int .i64 (y2 : Int), .int .i64 (a2 : Int), .int .i64 (b2 : Int)] 50 (0, 0))))
            case atStart => exact ⟨0, _, rfl, rfl, ⟨rfl⟩, ⟨Nat.zero_le _⟩, ⟨by omega⟩, HQ, HM, BK5, BK13, BK14⟩
            case round =>
              clear HQ HM BK5 BK12 BK13 BK14
              try clear h5_0_w6 f5_0_w6
              try clear h5_1_w6 f5_1_w6
              try clear h5_2_w6 f5_2_w6
              try clear h5_3_w6 f5_3_w6
              try clear h5_0_w7 f5_0_w7
              try clear h5_1_w7 f5_1_w7
              try clear h5_2_w7 f5_2_w7
              try clear h5_3_w7 f5_3_w7
              try clear h5_0_w8 f5_0_w8
              try clear h5_1_w8 f5_1_w8
              try clear h5_2_w8 f5_2_w8
              try clear h5_3_w8 f5_3_w8
              try clear h5_0_w9 f5_0_w9
              try clear h5_1_w9 f5_1_w9
              try clear h5_2_w9 f5_2_w9
              try clear h5_3_w9 f5_3_w9
              try clear h5_0_w10 f5_0_w10
              try clear h5_1_w10 f5_1_w10
              try clear h5_2_w10 f5_2_w10
              try clear h5_3_w10 f5_3_w10
              try clear h5_0_w11 f5_0_w11
              try clear h5_1_w11 f5_1_w11
              try clear h5_2_w11 f5_2_w11
              try clear h5_3_w11 f5_3_w11
              try clear h5_0_w12 f5_0_w12
              try clear h5_1_w12 f5_1_w12
              try clear h5_2_w12 f5_2_w12
              try clear h5_3_w12 f5_3_w12
              try clear h12_0_w6 f12_0_w6
              try clear h12_1_w6 f12_1_w6
              try clear h12_2_w6 f12_2_w6
              try clear h12_3_w6 f12_3_w6
              try clear h12_0_w7 f12_0_w7
              try clear h12_1_w7 f12_1_w7
              try clear h12_2_w7 f12_2_w7
              try clear h12_3_w7 f12_3_w7
              try clear h12_0_w8 f12_0_w8
              try clear h12_1_w8 f12_1_w8
              try clear h12_2_w8 f12_2_w8
              try clear h12_3_w8 f12_3_w8
              try clear h12_0_w9 f12_0_w9
              try clear h12_1_w9 f12_1_w9
              try clear h12_2_w9 f12_2_w9
              try clear h12_3_w9 f12_3_w9
              try clear h12_0_w10 f12_0_w10
              try clear h12_1_w10 f12_1_w10
              try clear h12_2_w10 f12_2_w10
              try clear h12_3_w10 f12_3_w10
              try clear h12_0_w11 f12_0_w11
              try clear h12_1_w11 f12_1_w11
              try clear h12_2_w11 f12_2_w11
              try clear h12_3_w11 f12_3_w11
              try clear h12_0_w12 f12_0_w12
              try clear h12_1_w12 f12_1_w12
              try clear h12_2_w12 f12_2_w12
              try clear h12_3_w12 f12_3_w12
              try clear h13_0_w6 f13_0_w6
              try clear h13_1_w6 f13_1_w6
              try clear h13_2_w6 f13_2_w6
              try clear h13_3_w6 f13_3_w6
              try clear h13_0_w7 f13_0_w7
              try clear h13_1_w7 f13_1_w7
              try clear h13_2_w7 f13_2_w7
              try clear h13_3_w7 f13_3_w7
              try clear h13_0_w8 f13_0_w8
              try clear h13_1_w8 f13_1_w8
              try clear h13_2_w8 f13_2_w8
              try clear h13_3_w8 f13_3_w8
              try clear h13_0_w9 f13_0_w9
              try clear h13_1_w9 f13_1_w9
              try clear h13_2_w9 f13_2_w9
              try clear h13_3_w9 f13_3_w9
              try clear h13_0_w10 f13_0_w10
              try clear h13_1_w10 f13_1_w10
              try clear h13_2_w10 f13_2_w10
              try clear h13_3_w10 f13_3_w10
              try clear h13_0_w11 f13_0_w11
              try clear h13_1_w11 f13_1_w11
              try clear h13_2_w11 f13_2_w11
              try clear h13_3_w11 f13_3_w11
              try clear h13_0_w12 f13_0_w12
              try clear h13_1_w12 f13_1_w12
              try clear h13_2_w12 f13_2_w12
              try clear h13_3_w12 f13_3_w12
              try clear h14_0_w6 f14_0_w6
              try clear h14_1_w6 f14_1_w6
              try clear h14_2_w6 f14_2_w6
              try clear h14_3_w6 f14_3_w6
              try clear h14_0_w7 f14_0_w7
              try clear h14_1_w7 f14_1_w7
              try clear h14_2_w7 f14_2_w7
              try clear h14_3_w7 f14_3_w7
              try clear h14_0_w8 f14_0_w8
              try clear h14_1_w8 f14_1_w8
              try clear h14_2_w8 f14_2_w8
              try clear h14_3_w8 f14_3_w8
              try clear h14_0_w9 f14_0_w9
              try clear h14_1_w9 f14_1_w9
              try clear h14_2_w9 f14_2_w9
              try clear h14_3_w9 f14_3_w9
              try clear h14_0_w10 f14_0_w10
              try clear h14_1_w10 f14_1_w10
              try clear h14_2_w10 f14_2_w10
              try clear h14_3_w10 f14_3_w10
              try clear h14_0_w11 f14_0_w11
              try clear h14_1_w11 f14_1_w11
              try clear h14_2_w11 f14_2_w11
              try clear h14_3_w11 f14_3_w11
              try clear h14_0_w12 f14_0_w12
              try clear h14_1_w12 f14_1_w12
              try clear h14_2_w12 f14_2_w12
              try clear h14_3_w12 f14_3_w12
              obtain ⟨j, bs2, rfl, rfl, HB2, hj, hjq, HQ, HM, BK5, BK13, BK14⟩ := hrel
              by_cases hjt : j + 1 < m
              · have d0 : decide ((j : Int) + 1 < (m : Int)) = true := decide_eq_true (by omega)
                have dj : IntKind.i64.wrap ((m : Int) - ((j : Int) + 1)) = ((m - (j + 1) : Nat) : Int) := by rw [i64_w]; unfold wrap64; omega
                have dj2 : wrap64 ((m : Int) - ((j : Int) + 1)) = ((m - (j + 1) : Nat) : Int) := by unfold wrap64; omega
                have ej : (j : Int) + 1 = ((j + 1 : Nat) : Int) := by omega
                have HDJ := Aside0.mk dj
                have HJT := Aside0.mk hjt
                have HJQ := Aside0.mk (show m - 1 - (j + 1) ≤ gk - 1 ∧ 0 < gk by have := hjq.out; omega)
                have B1 := Aside0.mk (show 1 ≤ j + 1 by omega)
                have B2 := Aside0.mk (show j + 1 ≤ 5 by omega)
                have B3 := Aside0.mk (show 1 ≤ m - (j + 1) by omega)
                have B4 := Aside0.mk (show m - (j + 1) ≤ 5 by omega)
                clear hjt hj hjq dj2 ej
                go_wp2
                have TOK1 : True := trivial
                go_region_held3 (fun w' => w'.cell? ⟨g13, 0, none⟩ = some (.int .i64 (x1 : Int)) ∧ w'.cell? ⟨g13, 1, none⟩ = some (.int .i64 (y1 : Int)) ∧ w'.cell? ⟨g13, 2, none⟩ = some (.int .i64 (a1 : Int)) ∧ w'.cell? ⟨g13, 3, none⟩ = some (.int .i64 (b1 : Int)) ∧ w'.cell? ⟨g14, 0, none⟩ = some (.int .i64 (x2 : Int)) ∧ w'.cell? ⟨g14, 1, none⟩ = some (.int .i64 (y2 : Int)) ∧ w'.cell? ⟨g14, 2, none⟩ = some (.int .i64 (a2 : Int)) ∧ w'.cell? ⟨g14, 3, none⟩ = some (.int .i64 (b2 : Int)) ∧ w'.cell? ⟨Bf, 0, none⟩ = some (poorFn Bn Bk Bf)) (exact ⟨(blk_cell BK13.out 0).trans rfl, (blk_cell BK13.out 1).trans rfl, (blk_cell BK13.out 2).trans rfl, (blk_cell BK13.out 3).trans rfl, (blk_cell BK14.out 0).trans rfl, (blk_cell BK14.out 1).trans rfl, (blk_cell BK14.out 2).trans rfl, (blk_cell BK14.out 3).trans rfl, (blk_cell (HE5.out.step HQ.out HM.out).bf 0).trans rfl⟩) (first | (((have tk_ := TOK1); clear tk_ TOK1; go_at_call 57; refine (ih x1 y1 a1 b1 (j + 1) J1.out B1.out B2.out S1.out _ (HE5.out.step (show w5.grownBy _ (some M) by repeat (first | (with_reducible first | exact HQ.out | refine gr_alloc ?_ _ | refine gr_drewN ?_ _ | refine gr_drew ?_) | exact HQ.out)) (show Memo Tryd.prog 75 M ksR keyR (poorG l wd) _ by repeat (first | (with_reducible first | exact HM.out | refine me_alloc ?_ _ | refine me_drewN ?_ _ | refine me_drew ?_) | exact HM.out)))).mono ?_; rintro e w13 ⟨rfl, hgr, henv⟩; have n0_ := Aside0.mk (grown_trans (show w5.grownBy _ (some M) by repeat (first | (with_reducible first | exact HQ.out | refine gr_alloc ?_ _ | refine gr_drewN ?_ _ | refine gr_drew ?_) | exact HQ.out)) hgr); have n1_ := Aside0.mk (blk_grown (g := g5) (o := .cells #[.int .i64 (x : Int), .int .i64 (y : Int), .int .i64 (a : Int), .int .i64 (b : Int)] 50 (0, 0)) (by (with_reducible repeat (first | refine blk_drewN ?_ _ | refine blk_drew ?_ | refine blk_alloc ?_ _)); exact BK5.out) hgr (fun e => NE5.out (Option.some.inj e))); have n2_ := Aside0.mk (blk_grown (g := g13) (o := .cells #[.int .i64 (x1 : Int), .int .i64 (y1 : Int), .int .i64 (a1 : Int), .int .i64 (b1 : Int)] 50 (0, 0)) (by (with_reducible repeat (first | refine blk_drewN ?_ _ | refine blk_drew ?_ | refine blk_alloc ?_ _)); exact BK13.out) hgr (fun e => NE13.out (Option.some.inj e))); have n3_ := Aside0.mk (blk_grown (g := g14) (o := .cells #[.int .i64 (x2 : Int), .int .i64 (y2 : Int), .int .i64 (a2 : Int), .int .i64 (b2 : Int)] 50 (0, 0)) (by (with_reducible repeat (first | refine blk_drewN ?_ _ | refine blk_drew ?_ | refine blk_alloc ?_ _)); exact BK14.out) hgr (fun e => NE14.out (Option.some.inj e))); have n4_ := Aside0.mk (henv.mem); clear HQ BK5 BK13 BK14 HM; have HQ := n0_; have BK5 := n1_; have BK13 := n2_; have BK14 := n3_; have HM := n4_; clear n0_ n1_ n2_ n3_ n4_; clear hgr henv)) | ((go_at_call 57; refine (ih x2 y2 a2 b2 (m - (j + 1)) J2.out B3.out B4.out S2.out _ (HE5.out.step (show w5.grownBy _ (some M) by repeat (first | (with_reducible first | exact HQ.out | refine gr_alloc ?_ _ | refine gr_drewN ?_ _ | refine gr_drew ?_) | exact HQ.out)) (show Memo Tryd.prog 75 M ksR keyR (poorG l wd) _ by repeat (first | (with_reducible first | exact HM.out | refine me_alloc ?_ _ | refine me_drewN ?_ _ | refine me_drew ?_) | exact HM.out)))).mono ?_; rintro e w14 ⟨rfl, hgr, henv⟩; have n0_ := Aside0.mk (grown_trans (show w5.grownBy _ (some M) by repeat (first | (with_reducible first | exact HQ.out | refine gr_alloc ?_ _ | refine gr_drewN ?_ _ | refine gr_drew ?_) | exact HQ.out)) hgr); have n1_ := Aside0.mk (blk_grown (g := g5) (o := .cells #[.int .i64 (x : Int), .int .i64 (y : Int), .int .i64 (a : Int), .int .i64 (b : Int)] 50 (0, 0)) (by (with_reducible repeat (first | refine blk_drewN ?_ _ | refine blk_drew ?_ | refine blk_alloc ?_ _)); exact BK5.out) hgr (fun e => NE5.out (Option.some.inj e))); have n2_ := Aside0.mk (blk_grown (g := g13) (o := .cells #[.int .i64 (x1 : Int), .int .i64 (y1 : Int), .int .i64 (a1 : Int), .int .i64 (b1 : Int)] 50 (0, 0)) (by (with_reducible repeat (first | refine blk_drewN ?_ _ | refine blk_drew ?_ | refine blk_alloc ?_ _)); exact BK13.out) hgr (fun e => NE13.out (Option.some.inj e))); have n3_ := Aside0.mk (blk_grown (g := g14) (o := .cells #[.int .i64 (x2 : Int), .int .i64 (y2 : Int), .int .i64 (a2 : Int), .int .i64 (b2 : Int)] 50 (0, 0)) (by (with_reducible repeat (first | refine blk_drewN ?_ _ | refine blk_drew ?_ | refine blk_alloc ?_ _)); exact BK14.out) hgr (fun e => NE14.out (Option.some.inj e))); have n4_ := Aside0.mk (henv.mem); clear HQ BK5 BK13 BK14 HM; have HQ := n0_; have BK5 := n1_; have BK13 := n2_; have BK14 := n3_; have HM := n4_; clear n0_ n1_ n2_ n3_ n4_; clear hgr henv)))
                have e9 : (j : Int) + 1 + 1 ≤ 1000 := by have := HJT.out; omega
                obtain ⟨mnv, hmn⟩ : ∃ z : Int, (if poor l (x2, y2, a2, b2) (m - (j + 1)) < poor l (x1, y1, a1, b1) (j + 1) then poor l (x2, y2, a2, b2) (m - (j + 1)) else poor l (x1, y1, a1, b1) (j + 1)) = z := ⟨_, rfl⟩
                rw [hmn]
                have HIF : (if bs2 < mnv then mnv else bs2) = poorIn (poor l) (x, y, a, b) m (v, p) bst (j + 1) := by
                  rw [show poorIn (poor l) (x, y, a, b) m (v, p) bst (j + 1) = mx (poorIn (poor l) (x, y, a, b) m (v, p) bst j) (mn (poor l (oneP (x, y, a, b) (v, p)) (j + 1)) (poor l (twoP (x, y, a, b) (v, p)) (m - (j + 1)))) from rfl, ← HB2.out, HQ1.out, HQ2.out, ← hmn]; rfl
                rw [HIF]
                clear hmn
                clear HIF
                go_wp2
                go_roundg (m - 1 - (j + 1))
                case measure => have := HJQ.out; omega
                case rel => exact ⟨j + 1, _, rfl, by go_num, ⟨rfl⟩, ⟨by have := HJT.out; omega⟩, ⟨Nat.le_refl _⟩, HQ, HM, BK5, BK13, BK14⟩
              · have d0 : decide ((j : Int) + 1 < (m : Int)) = false := decide_eq_false (by omega)
                obtain rfl : j = m - 1 := by have := hj.out; omega
                have e2 : (n : Int) + 1 ≤ 1000 := by have := HLT.out; have := HCL.out; omega
                go_wp2
                go_roundg (cs.length - (n + 1))
                case measure => have := HQQ.out; omega
                case rel => exact ⟨n + 1, _, rfl, by go_num, ⟨by rw [HB2.out, HNXT.out, HBS.out]⟩, ⟨HLT.out⟩, ⟨Nat.le_refl _⟩, HQ, HM, BK5⟩
          · have c0 : decide ((n : Int) < (cs.length : Int)) = false := decide_eq_false (by omega)
            have c00 : decide (n < cs.length) = false := decide_eq_false hlt
            obtain rfl : n = cs.length := by have := hn.out; omega
            obtain rfl : bst = poor l (x, y, a, b) m := by rw [HBS.out, FV.out]; unfold poorUp; rw [List.take_length]
            have hck : wr.cell? ⟨Bk, 0, none⟩ = some (.map (some M)) := (blk_cell (HE5.out.step HQ.out HM.out).bk 0).trans rfl
            have h5_0 : wr.cell? ⟨g5, 0, none⟩ = some (.int .i64 (x : Int)) := (blk_cell BK5.out 0).trans rfl
            have h5_1 : wr.cell? ⟨g5, 1, none⟩ = some (.int .i64 (y : Int)) := (blk_cell BK5.out 1).trans rfl
            have h5_2 : wr.cell? ⟨g5, 2, none⟩ = some (.int .i64 (a : Int)) := (blk_cell BK5.out 2).trans rfl
            have h5_3 : wr.cell? ⟨g5, 3, none⟩ = some (.int .i64 (b : Int)) := (blk_cell BK5.out 3).trans rfl
            clear HBS FV
            go_wp2_with (first | (at_mapUpdate; refine wp_store rfl _ _ _ 72 rfl 3 law75 Tryd.underlying72 ksR_lt rfl (show Memo Tryd.prog 75 M ksR keyR (poorG l wd) _ by repeat (first | (with_reducible first | exact HM.out | refine me_alloc ?_ _ | refine me_drewN ?_ _ | refine me_drew ?_) | exact HM.out)) ((x, y, a, b), m) _ _ rfl rfl (keyR_some ((x, y, a, b), m) HK9.out HM9.out) (List.mem_map.2 ⟨_, mem_ptsR ((x, y, a, b), m) HK9.out HM9.out, rfl⟩) (poorG_same HK9.out HM9.out) ?_; intro w20 hm20 hg20; have HG2 := Aside0.mk (grown_trans HG5.out (grown_trans (show w5.grownBy _ (some M) by repeat (first | (with_reducible first | exact HQ.out | refine gr_alloc ?_ _ | refine gr_drewN ?_ _ | refine gr_drew ?_) | exact HQ.out)) hg20)); have HM2 := Aside0.mk hm20; clear HQ HM hm20 hg20))
            go_ret
            exact ⟨rfl, HG2.out, HE.out.step HG2.out HM2.out⟩
end
end Go.Proofs.YtedpdfmaccoinaaDoor.P
namespace Go.Proofs.YtedpdfmaccoinaaDoor.P
open Go.RowKit Go.Proofs.YtedpdfmaccoinaaDoorW.PrintWords Go.Proofs.YtedpdfmaccoinaaDoorW.PrintLast Go.Proofs.YtedpdfmaccoinaaDoorW.PrintMore Go.Proofs.YtedpdfmaccoinaaDoor.Pure Go.Proofs.YtedpdfmaccoinaaDoor.Mem
set_option linter.unusedVariables false
set_option linter.unusedSimpArgs false
theorem fld_size_poor (a b c d : Int) (w : World) : (Instr.field 50 (.agg #[.int .i64 a, .int .i64 b, .int .i64 c, .int .i64 d]) 2).run Tryd.prog w = .ok (.agg #[.int .i64 c, .int .i64 d]) w := by kernel_rfl
attribute [local go_sem] fld_size_poor max2_int min2_int max_two min_two
theorem old_allocR {W : World} {k : Nat} {o' : Obj} (h : W.heap[k]? = some o') (o : Obj) : (W.alloc o).heap[k]? = some o' := (Below.heap_alloc W o k (blk_lt h)).trans h
def impl_PoorestPiece.f (l0 : List ByteArray) (a1 : Int) : Option (Int × Bool) := if l0.length ≤ 1048576 ∧ sizes l0 ≤ 1048576 then (impl_AreNuts.f l0).bind fun t => if t = true then (if 1 ≤ a1 ∧ a1 ≤ 5 ∧ a1 ≤ (((rdOf ByteArray.empty l0 0).size * l0.length : Nat) : Int) then some (poor l0 (0, 0, (rdOf ByteArray.empty l0 0).size, l0.length) a1.toNat, true) else some (0, false)) else some (0, false) else none
theorem Nuts.widthR {l : List ByteArray} {w : Nat} (h : Nuts l w) : (rdOf ByteArray.empty l 0).size = w := by
  have h1 := h.rows1
  have := (h.row 0 (by omega)).1
  simpa using this
theorem Nuts.innR {l : List ByteArray} {w : Nat} (h : Nuts l w) : Inn w l.length (0, 0, w, l.length) := ⟨by have := h.wide1; simpa using this, h.rows1, by simp, by simp⟩
set_option maxHeartbeats 8000000 in
set_option maxRecDepth 100000 in
theorem impl_PoorestPiece.calls (A0 : Option Addr) (c0 : Nat) (l0 : List ByteArray) (a1 : Int) (r1 : Int) (r2 : Bool) (w : World) (hr0 : Kd.C Kd.string w A0 l0.length l0) (hc0 : l0.length ≤ c0) (h : impl_PoorestPiece.f l0 a1 = some (r1, r2)) :
    Calls Tryd.prog 32 #[.slice A0 l0.length c0, .int .i64 a1] w fun e w' => e = .returned (.tuple #[.int .i64 r1, .bool r2]) ∧ Below w.heap.size w w' := by
  unfold impl_PoorestPiece.f at h
  by_cases hs : l0.length ≤ 1048576 ∧ sizes l0 ≤ 1048576
  case neg => rw [if_neg hs] at h; cases h
  rw [if_pos hs] at h
  obtain ⟨bb, _, hgood, hnuts⟩ := good_both l0 hs.1 hs.2
  rw [hgood, Option.bind_some] at h
  have HA := Aside0.mk hgood
  have HR0 := Aside0.mk hr0
  have HC0 := Aside0.mk hc0
  clear hr0 hc0 hgood hs
  have HB := Aside0.mk (Below.refl w.heap.size w)
  cases bb with
  | false =>
    simp only [Bool.false_eq_true, if_false, Option.some.injEq, Prod.mk.injEq] at h
    obtain ⟨rfl, rfl⟩ := h
    clear hnuts
    go_enter Tryd.func32, Tryd.ntmps32
    go_wp2_with (first | ((with_reducible refine gate_dst (N := 2) rfl ?_); refine box_event ?hg (N := 2) ?hd (cs := #[.slice A0 l0.length c0]) (t := 22) ?hr ?_; (case hd => rfl); (case hg => rfl); (case hr => first | (go_simp; done) | (go_simp; rfl)); intro g2 hg w4 hbox hb; have BK2 := Aside0.mk hbox; have n0_ := Aside0.mk (below_step HB.out hb); clear HB; have HB := n0_; clear n0_  hb; clear hbox hg; have h2_w4 : w4.cell? ⟨g2, 0, none⟩ = some (.slice A0 l0.length c0) := (blk_cell BK2.out 0).trans rfl) | (go_at_call 37; refine (impl_AreNuts.calls _ _ l0 _ _ (Kd.C_below HR0.out HB.out) HC0.out HA.out).mono ?_; rintro e w6 ⟨rfl, hb⟩; have n0_ := Aside0.mk (below_step HB.out hb); have n1_ := Aside0.mk (blk_below BK2.out hb); clear HB BK2; have HB := n0_; have BK2 := n1_; clear n0_ n1_ hb; have h2_w6 : w6.cell? ⟨g2, 0, none⟩ = some (.slice A0 l0.length c0) := (blk_cell BK2.out 0).trans rfl))
    go_ret2
    exact ⟨rfl, HB.out⟩
  | true =>
    rw [if_pos rfl] at h
    obtain ⟨wd, HNU⟩ := hnuts rfl
    rw [Nuts.widthR HNU] at h
    have WH := Aside0.mk (whole_some HNU)
    have hw8 := HNU.wide8
    have hl8 := HNU.rows8
    have hw1 := HNU.wide1
    have hl1 := HNU.rows1
    have SQ := Aside0.mk (squares_nat (a := wd) (b := l0.length) (by omega) (by omega))
    have hmin : (if ((wd * l0.length : Nat) : Int) < 5 then ((wd * l0.length : Nat) : Int) else 5) = mn 5 ((wd * l0.length : Nat) : Int) := rfl
    obtain ⟨top, htop⟩ : ∃ z : Int, (if ((wd * l0.length : Nat) : Int) < 5 then ((wd * l0.length : Nat) : Int) else 5) = z := ⟨_, rfl⟩
    have WI := Aside0.mk (within_some a1 1 top)
    have hiff : (1 ≤ a1 ∧ a1 ≤ 5 ∧ a1 ≤ ((wd * l0.length : Nat) : Int)) ↔ (1 ≤ a1 ∧ a1 ≤ top) := by
      rw [← htop]
      by_cases c : ((wd * l0.length : Nat) : Int) < 5
      · rw [if_pos c]; omega
      · rw [if_neg c]; omega
    by_cases hok : 1 ≤ a1 ∧ a1 ≤ 5 ∧ a1 ≤ ((wd * l0.length : Nat) : Int)
    · rw [if_pos hok] at h
      simp only [Option.some.injEq, Prod.mk.injEq] at h
      obtain ⟨rfl, rfl⟩ := h
      have e1 : decide (1 ≤ a1 ∧ a1 ≤ top) = true := decide_eq_true (hiff.1 hok)
      rw [e1] at WI
      obtain ⟨m, rfl⟩ : ∃ m : Nat, a1 = (m : Int) := ⟨a1.toNat, by omega⟩
      have HL := Lib.hid (fun Bn Bk Bf M => poor_any (A0 := A0) (c0 := c0) (Bn := Bn) (Bk := Bk) (Bf := Bf) (M := M) (w0 := w) HNU (wd + l0.length) 0 0 wd l0.length m (Nuts.innR HNU) (by omega) (by omega) (Nat.le_refl _))
      have hmk := fun W => run_makeMap (P := Tryd.prog) 72 W
      have HTOP := Aside0.mk htop
      clear hnuts hok e1 hiff hmin htop hw8 hl8 hw1 hl1
      generalize ((wd * l0.length : Nat) : Int) = area_ at SQ HTOP
      go_enter Tryd.func32, Tryd.ntmps32
      go_wp2_with (first | ((with_reducible refine gate_dst (N := 2) rfl ?_); refine box_event ?hg (N := 2) ?hd (cs := #[.slice A0 l0.length c0]) (t := 22) ?hr ?_; (case hd => rfl); (case hg => rfl); (case hr => first | (go_simp; done) | (go_simp; rfl)); intro g2 hg w4 hbox hb; have BK2 := Aside0.mk hbox; have n0_ := Aside0.mk (below_step HB.out hb); clear HB; have HB := n0_; clear n0_  hb; clear hbox hg; have h2_w4 : w4.cell? ⟨g2, 0, none⟩ = some (.slice A0 l0.length c0) := (blk_cell BK2.out 0).trans rfl) | (go_at_call 37; refine (impl_AreNuts.calls _ _ l0 _ _ (Kd.C_below HR0.out HB.out) HC0.out HA.out).mono ?_; rintro e w6 ⟨rfl, hb⟩; have n0_ := Aside0.mk (below_step HB.out hb); have n1_ := Aside0.mk (blk_below BK2.out hb); clear HB BK2; have HB := n0_; have BK2 := n1_; clear n0_ n1_ hb; have h2_w6 : w6.cell? ⟨g2, 0, none⟩ = some (.slice A0 l0.length c0) := (blk_cell BK2.out 0).trans rfl) | (go_at_call 46; refine (impl_whole.calls _ _ l0 _ _ _ _ _ (Kd.C_below HR0.out HB.out) HC0.out WH.out).mono ?_; rintro e w7 ⟨rfl, hb⟩; have n0_ := Aside0.mk (below_step HB.out hb); have n1_ := Aside0.mk (blk_below BK2.out hb); clear HB BK2; have HB := n0_; have BK2 := n1_; clear n0_ n1_ hb; have h2_w7 : w7.cell? ⟨g2, 0, none⟩ = some (.slice A0 l0.length c0) := (blk_cell BK2.out 0).trans rfl) | (go_at_call 42; refine (impl_Bar_squares.calls _ _ _ _ SQ.out).mono ?_; rintro e w8 ⟨rfl, hb⟩; have n0_ := Aside0.mk (below_step HB.out hb); have n1_ := Aside0.mk (blk_below BK2.out hb); clear HB BK2; have HB := n0_; have BK2 := n1_; clear n0_ n1_ hb; have h2_w8 : w8.cell? ⟨g2, 0, none⟩ = some (.slice A0 l0.length c0) := (blk_cell BK2.out 0).trans rfl) | ((try rw [HTOP.out]); go_at_call 52; refine (impl_within.calls _ _ _ _ _ WI.out).mono ?_; rintro e w9 ⟨rfl, hd⟩; have hb := hd.below; clear hd; have n0_ := Aside0.mk (below_step HB.out hb); have n1_ := Aside0.mk (blk_below BK2.out hb); clear HB BK2; have HB := n0_; have BK2 := n1_; clear n0_ n1_ hb; have h2_w9 : w9.cell? ⟨g2, 0, none⟩ = some (.slice A0 l0.length c0) := (blk_cell BK2.out 0).trans rfl))
      obtain ⟨Y, hY⟩ : ∃ Y, ((w9.alloc (.map #[] 0)).alloc (.cells #[.map (some w9.heap.size)] 72)).alloc (.cells #[poorFn g2 (w9.heap.size + 1) (w9.heap.size + 1 + 1)] 73) = Y := ⟨_, rfl⟩
      rw [hY]
      have hsz : w.heap.size ≤ w9.heap.size := below_size HB.out
      have HEY : PoorEnv l0 wd A0 c0 g2 (w9.heap.size + 1) (w9.heap.size + 1 + 1) w9.heap.size w Y := by
        rw [← hY]
        refine ⟨old_allocR (old_allocR (old_allocR BK2.out _) _) _, old_allocR (by have := heap_alloc_new (w9.alloc (.map #[] 0)) (.cells #[.map (some w9.heap.size)] 72); simpa using this) _, by have := heap_alloc_new ((w9.alloc (.map #[] 0)).alloc (.cells #[.map (some w9.heap.size)] 72)) (.cells #[poorFn g2 (w9.heap.size + 1) (w9.heap.size + 1 + 1)] 73); simpa using this, HR0.out, below_alloc (below_alloc (below_alloc HB.out _) _) _, hsz, me_alloc (me_alloc (Memo.made _ _ _ _ _ _) _) _, HC0.out⟩
      clear hY hsz HB BK2
      generalize w9.heap.size = M at HEY ⊢
      have HE := Aside0.mk HEY
      clear HEY
      go_region_held3 (fun w' => w'.cell? ⟨M + 1 + 1, 0, none⟩ = some (poorFn g2 (M + 1) (M + 1 + 1)) ∧ w'.cell? ⟨g2, 0, none⟩ = some (.slice A0 l0.length c0)) (exact ⟨(blk_cell HE.out.bf 0).trans rfl, (blk_cell HE.out.bn 0).trans rfl⟩) (first | ((go_at_call 46; refine (impl_whole.calls _ _ l0 _ _ _ _ _ (HE.out.belowStep (below_drew1 (Below.refl _ _))).rowsAt HC0.out WH.out).mono ?_; rintro e w10 ⟨rfl, hb⟩; have HE2 := Aside0.mk ((HE.out.belowStep (below_drew1 (Below.refl _ _))).belowStep hb); clear HE hb; have HE := HE2; clear HE2)) | ((go_at_call 57; refine (HL.out _ _ _ _ _ HE.out).mono ?_; rintro e w11 ⟨rfl, hg, hE⟩; have HE2 := Aside0.mk hE; clear HE hg hE; have HE := HE2; clear HE2)))
      go_wp2
      go_ret2
      exact ⟨rfl, HE.out.below⟩
    · rw [if_neg hok] at h
      simp only [Option.some.injEq, Prod.mk.injEq] at h
      obtain ⟨rfl, rfl⟩ := h
      have e1 : decide (1 ≤ a1 ∧ a1 ≤ top) = false := decide_eq_false (fun hh => hok (hiff.2 hh))
      rw [e1] at WI
      have HTOP := Aside0.mk htop
      clear hnuts hok e1 hiff hmin htop hw8 hl8 hw1 hl1
      generalize ((wd * l0.length : Nat) : Int) = area_ at SQ HTOP
      go_enter Tryd.func32, Tryd.ntmps32
      go_wp2_with (first | ((with_reducible refine gate_dst (N := 2) rfl ?_); refine box_event ?hg (N := 2) ?hd (cs := #[.slice A0 l0.length c0]) (t := 22) ?hr ?_; (case hd => rfl); (case hg => rfl); (case hr => first | (go_simp; done) | (go_simp; rfl)); intro g2 hg w4 hbox hb; have BK2 := Aside0.mk hbox; have n0_ := Aside0.mk (below_step HB.out hb); clear HB; have HB := n0_; clear n0_  hb; clear hbox hg; have h2_w4 : w4.cell? ⟨g2, 0, none⟩ = some (.slice A0 l0.length c0) := (blk_cell BK2.out 0).trans rfl) | (go_at_call 37; refine (impl_AreNuts.calls _ _ l0 _ _ (Kd.C_below HR0.out HB.out) HC0.out HA.out).mono ?_; rintro e w6 ⟨rfl, hb⟩; have n0_ := Aside0.mk (below_step HB.out hb); have n1_ := Aside0.mk (blk_below BK2.out hb); clear HB BK2; have HB := n0_; have BK2 := n1_; clear n0_ n1_ hb; have h2_w6 : w6.cell? ⟨g2, 0, none⟩ = some (.slice A0 l0.length c0) := (blk_cell BK2.out 0).trans rfl) | (go_at_call 46; refine (impl_whole.calls _ _ l0 _ _ _ _ _ (Kd.C_below HR0.out HB.out) HC0.out WH.out).mono ?_; rintro e w7 ⟨rfl, hb⟩; have n0_ := Aside0.mk (below_step HB.out hb); have n1_ := Aside0.mk (blk_below BK2.out hb); clear HB BK2; have HB := n0_; have BK2 := n1_; clear n0_ n1_ hb; have h2_w7 : w7.cell? ⟨g2, 0, none⟩ = some (.slice A0 l0.length c0) := (blk_cell BK2.out 0).trans rfl) | (go_at_call 42; refine (impl_Bar_squares.calls _ _ _ _ SQ.out).mono ?_; rintro e w8 ⟨rfl, hb⟩; have n0_ := Aside0.mk (below_step HB.out hb); have n1_ := Aside0.mk (blk_below BK2.out hb); clear HB BK2; have HB := n0_; have BK2 := n1_; clear n0_ n1_ hb; have h2_w8 : w8.cell? ⟨g2, 0, none⟩ = some (.slice A0 l0.length c0) := (blk_cell BK2.out 0).trans rfl) | ((try rw [HTOP.out]); go_at_call 52; refine (impl_within.calls _ _ _ _ _ WI.out).mono ?_; rintro e w9 ⟨rfl, hd⟩; have hb := hd.below; clear hd; have n0_ := Aside0.mk (below_step HB.out hb); have n1_ := Aside0.mk (blk_below BK2.out hb); clear HB BK2; have HB := n0_; have BK2 := n1_; clear n0_ n1_ hb; have h2_w9 : w9.cell? ⟨g2, 0, none⟩ = some (.slice A0 l0.length c0) := (blk_cell BK2.out 0).trans rfl))
      go_ret2
      exact ⟨rfl, HB.out⟩
end Go.Proofs.YtedpdfmaccoinaaDoor.P
