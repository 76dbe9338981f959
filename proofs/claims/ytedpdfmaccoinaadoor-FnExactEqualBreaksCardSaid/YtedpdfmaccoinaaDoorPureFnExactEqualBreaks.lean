/- Small facts on numbers: the wrap of what fits; the tests of bounds. | Lists of texts: measured, copied, compared with themselves. Condition: a list shorter than any machine's memory. | Lists of numbers: compared with themselves. Condition: a list shorter than any machine's memory. | Lists of numbers: marked, and held as marked. Condition: a list shorter than any machine's memory. | Lists of texts: marked, and held as marked. Condition: a list shorter than any machine's memory. | Which lists of texts are nuts: the program's way and the reference's say the same. Condition: a list shorter than any machine's memory. | How many nuts are in a part: the program's sum and the reference's are one. Conditions: nuts, a part inside. | One break of a bar with nuts: how far apart the two parts are, in the program and in the reference. Conditions: nuts, a break inside. | The breaks that share the nuts equally: the program's and the reference's are one, for all lists of texts. -/
import Derived.Test.YtedpdfmaccoinaaDoorPx2
import Derived.Test.YtedpdfmaccoinaaDoorPx8
import Derived.Test.YtedpdfmaccoinaaDoorPx7
import Derived.Test.YtedpdfmaccoinaaDoorPx17
import Derived.Test.YtedpdfmaccoinaaDoorPx1
import Derived.Test.YtedpdfmaccoinaaDoorPx40
import Derived.Test.YtedpdfmaccoinaaDoorPx43
import Derived.Test.YtedpdfmaccoinaaDoorPx44
import Derived.Test.YtedpdfmaccoinaaDoorPx42
import Derived.Test.YtedpdfmaccoinaaDoorPx3
import Derived.Test.YtedpdfmaccoinaaDoorOAreNuts
import Derived.Test.YtedpdfmaccoinaaDoorPx4
import Derived.Test.YtedpdfmaccoinaaDoorPx15
import Derived.Test.YtedpdfmaccoinaaDoorPx29
import Derived.Test.YtedpdfmaccoinaaDoorPx35
import Derived.Test.YtedpdfmaccoinaaDoorPx32
import Derived.Test.YtedpdfmaccoinaaDoorPx45
namespace Go.Proofs.YtedpdfmaccoinaaDoor.Pure
open Go.RowKit Go.Proofs.YtedpdfmaccoinaaDoor.P Go.Proofs.YtedpdfmaccoinaaDoorW.PrintWords Go.Proofs.YtedpdfmaccoinaaDoorW.PrintLast
theorem w64 {x : Int} (h0 : -9223372036854775808 ≤ x) (h1 : x ≤ 9223372036854775807) : wrap64 x = x := by
  unfold wrap64
  omega
theorem wf64 {x : Int} (h : (Lit.int .i64 x).wf = true) : -9223372036854775808 ≤ x ∧ x ≤ 9223372036854775807 := by
  simp [Lit.wf, IntKind.min, IntKind.max, IntKind.signed, IntKind.bits] at h
  omega
theorem l1In_some (a lo hi : Int) : spec_l1In.f a lo hi = some (decide (lo ≤ a ∧ a ≤ hi)) := by
  unfold spec_l1In.f
  by_cases h : a ≥ lo
  · rw [if_pos h]
    simp [show lo ≤ a from h]
  · rw [if_neg h]
    simp [show ¬ lo ≤ a from h]
theorem within_some (a lo hi : Int) : impl_within.f a lo hi = some (decide (lo ≤ a ∧ a ≤ hi)) := by
  unfold impl_within.f
  by_cases h : lo ≤ a
  · rw [if_pos h]
    simp [h]
  · rw [if_neg h]
    simp [h]
theorem rd_get (l : List Int) (i : Nat) (v : Int) (h : l[i]? = some v) : rd l (i : Int) = v := by
  unfold rd
  simp [h]
theorem rd_lt (l : List Int) (i : Nat) (h : i < l.length) : rd l (i : Int) = l[i] := rd_get l i _ (List.getElem?_eq_getElem h)
/-- A value that is there already, handed on (the rest stays folded). -/
theorem ev_val {α β : Type} {o : Option α} {a : α} {f : Nat → α → Option β} {r : β} (h : o = some a) (k : Ev (fun n => f n a) r) : Ev (fun n => o.bind (f n)) r := by
  subst h
  exact k
theorem ev_if_pos {β : Type} {c : Prop} [Decidable c] {f g : Nat → Option β} {r : β} (h : c) (k : Ev f r) : Ev (fun n => if c then f n else g n) r := by
  simp only [if_pos h]
  exact k
theorem ev_if_neg {β : Type} {c : Prop} [Decidable c] {f g : Nat → Option β} {r : β} (h : ¬ c) (k : Ev g r) : Ev (fun n => if c then f n else g n) r := by
  simp only [if_neg h]
  exact k
end Go.Proofs.YtedpdfmaccoinaaDoor.Pure
namespace Go.Proofs.YtedpdfmaccoinaaDoor.Pure
open Go.RowKit Go.Proofs.YtedpdfmaccoinaaDoor.P Go.Proofs.YtedpdfmaccoinaaDoorW.PrintWords Go.Proofs.YtedpdfmaccoinaaDoorW.PrintLast
theorem rs_get (l : List ByteArray) (i : Nat) (v : ByteArray) (h : l[i]? = some v) : rdOf ByteArray.empty l (i : Int) = v := by
  unfold rdOf
  simp [h]
theorem rs_lt (l : List ByteArray) (i : Nat) (h : i < l.length) : rdOf ByteArray.empty l (i : Int) = l[i] := rs_get l i _ (List.getElem?_eq_getElem h)
def sizes (l : List ByteArray) : Nat := (l.map fun s => s.size).sum
theorem sz_l0 (l : List ByteArray) (hm : l.length ≤ 1048576) (hs : ∀ s ∈ l, s.size ≤ 140737488351232) : ∀ (d i : Nat) (c : Int), i + d = l.length → 0 ≤ c → c ≤ 1048576 → ∃ t, Ev (fun k => laws_szStringS.l0 k l c (i : Int)) t ∧ (0 ≤ t → (sizes (l.drop i) : Int) ≤ c) := by
  intro d
  induction d with
  | zero =>
    intro i c hi hc0 hc
    refine ⟨c, Ev.step (f := fun _ => some c) (fun k => by simp only [laws_szStringS.l0]; rw [if_neg (by omega)]) (Ev.now _), fun _ => ?_⟩
    rw [List.drop_of_length_le (by omega)]
    simp [sizes]
    exact hc0
  | succ d ih =>
    intro i c hi hc0 hc
    have hlt : i < l.length := by omega
    have hsi := hs l[i] (List.getElem_mem hlt)
    have w1 : wrap64 (c - (l[i].size : Int)) = c - (l[i].size : Int) := w64 (by omega) (by omega)
    by_cases h : c - (l[i].size : Int) < 0
    · refine ⟨-1, Ev.step (f := fun _ => some (-1)) (fun k => ?_) (Ev.now _), fun h => by omega⟩
      simp only [laws_szStringS.l0, rs_lt l i hlt, w1]
      rw [if_pos (by omega), if_pos (by omega), if_pos h]
    · obtain ⟨t, s, ht⟩ := ih (i + 1) (c - (l[i].size : Int)) (by omega) (by omega) (by omega)
      refine ⟨t, Ev.step (fun k => ?_) s, fun h0 => ?_⟩
      · simp only [laws_szStringS.l0, rs_lt l i hlt, w1]
        rw [if_pos (by omega), if_pos (by omega), if_neg h, w64 (x := (i : Int) + 1) (by omega) (by omega)]
        rfl
      · have := ht h0
        rw [List.drop_eq_getElem_cons hlt]
        have e : sizes (l[i] :: l.drop (i + 1)) = l[i].size + sizes (l.drop (i + 1)) := rfl
        rw [e]
        omega
theorem sz_ev (l : List ByteArray) (hm : l.length ≤ maxLen) (hs : ∀ s ∈ l, s.size ≤ 140737488351232) : ∃ t, Ev (fun k => laws_szStringS.f k l 1048576) t ∧ (0 ≤ t → l.length ≤ 1048576 ∧ sizes l ≤ 1048576) := by
  unfold maxLen at hm
  have w1 : wrap64 (1048576 - (l.length : Int)) = 1048576 - (l.length : Int) := w64 (by omega) (by omega)
  unfold laws_szStringS.f
  simp only [w1]
  by_cases h : 1048576 - (l.length : Int) < 0
  · refine ⟨-1, ?_, fun h => by omega⟩
    simp only [if_pos h]
    exact Ev.now _
  · obtain ⟨t, s, ht⟩ := sz_l0 l (by omega) hs l.length 0 (1048576 - (l.length : Int)) (by omega) (by omega) (by omega)
    refine ⟨t, ?_, fun h0 => ⟨by omega, ?_⟩⟩
    · simp only [if_neg h]
      exact s
    · have := ht h0
      rw [List.drop_zero] at this
      omega
theorem toStringS_l0 (l : List ByteArray) (hn : l.length ≤ 1048576) : ∀ (d i : Nat) (o : List ByteArray), i + d = l.length → o.length = l.length → (∀ j, j < i → o[j]? = l[j]?) → ∀ k, d < k →
    laws_toStringS.l0 k l o (i : Int) = some l := by
  intro d
  induction d with
  | zero =>
    intro i o hi ho h k hk
    obtain ⟨m, rfl⟩ : ∃ m, k = m + 1 := ⟨k - 1, by omega⟩
    simp only [laws_toStringS.l0]
    rw [if_neg (by omega)]
    congr 1
    apply List.ext_getElem?
    intro j
    by_cases hj : j < i
    · exact h j hj
    · rw [List.getElem?_eq_none (by omega), List.getElem?_eq_none (by omega)]
  | succ d ih =>
    intro i o hi ho h k hk
    obtain ⟨m, rfl⟩ : ∃ m, k = m + 1 := ⟨k - 1, by omega⟩
    simp only [laws_toStringS.l0, Int.toNat_natCast]
    rw [if_pos (by omega), if_pos (by omega), if_pos (by omega), w64 (by omega) (by omega), rs_lt l i (by omega)]
    refine ih (i + 1) _ (by omega) (by rw [List.length_set]; omega) (fun j hj => ?_) m (by omega)
    by_cases hji : j = i
    · subst hji
      rw [List.getElem?_set_self (by omega), List.getElem?_eq_getElem (by omega)]
    · rw [List.getElem?_set_ne (by omega)]
      exact h j (by omega)
theorem toStringS_ev (l : List ByteArray) (hn : l.length ≤ 1048576) : Ev (fun k => laws_toStringS.f k l) l := by
  refine ⟨l.length + 1, fun k hk => ?_⟩
  show laws_toStringS.f k l = _
  unfold laws_toStringS.f
  rw [if_pos (by omega), if_pos (by rw [Int.toNat_natCast]; omega)]
  exact toStringS_l0 l hn l.length 0 _ (by omega) (by simp) (fun j hj => by omega) k (by omega)
theorem eqStringS_l0 (l : List ByteArray) (hn : l.length ≤ 1000000000000) : ∀ (d i : Nat), i + d = l.length → ∀ k, d < k → laws_eqStringS.l0 k l l (i : Int) = some true := by
  intro d
  induction d with
  | zero =>
    intro i hi k hk
    obtain ⟨m, rfl⟩ : ∃ m, k = m + 1 := ⟨k - 1, by omega⟩
    simp only [laws_eqStringS.l0]
    rw [if_neg (by omega)]
  | succ d ih =>
    intro i hi k hk
    obtain ⟨m, rfl⟩ : ∃ m, k = m + 1 := ⟨k - 1, by omega⟩
    simp only [laws_eqStringS.l0]
    rw [if_pos (by omega), if_pos (by omega), if_pos (by omega)]
    simp only [if_true]
    rw [w64 (by omega) (by omega)]
    exact ih (i + 1) (by omega) m (by omega)
theorem eqStringS_refl (l : List ByteArray) (hn : l.length ≤ 1000000000000) : Ev (fun k => laws_eqStringS.f k l l) true := by
  refine ⟨l.length + 1, fun k hk => ?_⟩
  simp only [laws_eqStringS.f, if_true]
  exact eqStringS_l0 l hn l.length 0 (by omega) k (by omega)
end Go.Proofs.YtedpdfmaccoinaaDoor.Pure
namespace Go.Proofs.YtedpdfmaccoinaaDoor.Pure
open Go.RowKit Go.Proofs.YtedpdfmaccoinaaDoor.P Go.Proofs.YtedpdfmaccoinaaDoorW.PrintWords Go.Proofs.YtedpdfmaccoinaaDoorW.PrintLast
theorem eqIntS_l0 (l : List Int) (hn : l.length ≤ 1000000000000) : ∀ (d i : Nat), i + d = l.length → ∀ k, d < k → laws_eqIntS.l0 k l l (i : Int) = some true := by
  intro d
  induction d with
  | zero =>
    intro i hi k hk
    obtain ⟨m, rfl⟩ : ∃ m, k = m + 1 := ⟨k - 1, by omega⟩
    simp only [laws_eqIntS.l0]
    rw [if_neg (by omega)]
  | succ d ih =>
    intro i hi k hk
    obtain ⟨m, rfl⟩ : ∃ m, k = m + 1 := ⟨k - 1, by omega⟩
    simp only [laws_eqIntS.l0]
    rw [if_pos (by omega), if_pos (by omega), if_pos (by omega)]
    simp only [if_true]
    rw [w64 (by omega) (by omega)]
    exact ih (i + 1) (by omega) m (by omega)
theorem eqIntS_refl (l : List Int) (hn : l.length ≤ 1000000000000) : Ev (fun k => laws_eqIntS.f k l l) true := by
  refine ⟨l.length + 1, fun k hk => ?_⟩
  simp only [laws_eqIntS.f, if_true]
  exact eqIntS_l0 l hn l.length 0 (by omega) k (by omega)
end Go.Proofs.YtedpdfmaccoinaaDoor.Pure
namespace Go.Proofs.YtedpdfmaccoinaaDoor.Pure
open Go.RowKit Go.Proofs.YtedpdfmaccoinaaDoor.P Go.Proofs.YtedpdfmaccoinaaDoorW.PrintWords Go.Proofs.YtedpdfmaccoinaaDoorW.PrintLast
theorem markIntS_l0 : ∀ (d i : Nat) (l : List Int) (c : Nat), l.length = i + d → l.length ≤ 1000000000000 → c + d ≤ 4000000000000 → ∀ k, d < k →
    laws_markIntS.l0 k l (c : Int) (i : Int) = some (((c + d : Nat) : Int), l.take i ++ (List.range d).map (fun j => ((c + j : Nat) : Int))) := by
  intro d
  induction d with
  | zero =>
    intro i l c hl hn hc k hk
    obtain ⟨m, rfl⟩ : ∃ m, k = m + 1 := ⟨k - 1, by omega⟩
    simp only [laws_markIntS.l0]
    rw [if_neg (by omega), List.take_of_length_le (by omega)]
    simp
  | succ d ih =>
    intro i l c hl hn hc k hk
    obtain ⟨m, rfl⟩ : ∃ m, k = m + 1 := ⟨k - 1, by omega⟩
    simp only [laws_markIntS.l0, Int.toNat_natCast]
    rw [if_pos (by omega), if_pos (by omega), w64 (x := (c : Int) + 1) (by omega) (by omega), w64 (x := (i : Int) + 1) (by omega) (by omega)]
    have := ih (i + 1) (l.set i (c : Int)) (c + 1) (by rw [List.length_set]; omega) (by rw [List.length_set]; omega) (by omega) m (by omega)
    rw [show c + 1 + d = c + (d + 1) by omega] at this
    have e : (l.set i (c : Int)).take (i + 1) ++ (List.range d).map (fun j => ((c + 1 + j : Nat) : Int)) = l.take i ++ (List.range (d + 1)).map (fun j => ((c + j : Nat) : Int)) := by
      rw [List.take_succ_eq_append_getElem (by rw [List.length_set]; omega), List.getElem_set_self, List.take_set_of_le (by omega), List.append_assoc, List.range_succ_eq_map, List.map_cons, List.map_map]
      congr 1
      rw [List.singleton_append]
      congr 1
      refine List.map_congr_left fun j _ => ?_
      simp only [Function.comp]
      omega
    rw [e] at this
    exact this
theorem heldIntS_l0 : ∀ (d i : Nat) (l : List Int) (c : Nat), l.length = i + d → l.length ≤ 1000000000000 → c + d ≤ 4000000000000 →
    (∀ j, j < d → l[i + j]? = some ((c + j : Nat) : Int)) → ∀ k, d < k → laws_heldIntS.l0 k l (c : Int) (i : Int) = some ((c + d : Nat) : Int) := by
  intro d
  induction d with
  | zero =>
    intro i l c hl hn hc h k hk
    obtain ⟨m, rfl⟩ : ∃ m, k = m + 1 := ⟨k - 1, by omega⟩
    simp only [laws_heldIntS.l0]
    rw [if_neg (by omega)]
    simp
  | succ d ih =>
    intro i l c hl hn hc h k hk
    obtain ⟨m, rfl⟩ : ∃ m, k = m + 1 := ⟨k - 1, by omega⟩
    have h0 := h 0 (by omega)
    rw [Nat.add_zero] at h0
    simp only [laws_heldIntS.l0]
    rw [if_pos (by omega), if_pos (by omega), rd_get _ _ _ h0, if_pos (by simp), w64 (x := (c : Int) + 1) (by omega) (by omega), w64 (x := (i : Int) + 1) (by omega) (by omega)]
    rw [show c + (d + 1) = c + 1 + d by omega]
    refine ih (i + 1) l (c + 1) (by omega) hn (by omega) (fun j hj => ?_) m (by omega)
    rw [show i + 1 + j = i + (j + 1) by omega, h (j + 1) (by omega), show c + (j + 1) = c + 1 + j by omega]
def marks (n c : Nat) : List Int := (List.range n).map (fun j => ((c + j : Nat) : Int))
theorem marks_get (n c j : Nat) (h : j < n) : (marks n c)[j]? = some ((c + j : Nat) : Int) := by
  unfold marks
  simp [h]
theorem markIntS_ev (l : List Int) (c : Nat) (hn : l.length ≤ 1000000000000) (hc : c ≤ 1000000000000) : Ev (fun k => laws_markIntS.f k l (c : Int)) (((c + l.length : Nat) : Int), marks l.length c) := by
  refine ⟨l.length + 1, fun k hk => ?_⟩
  have := markIntS_l0 l.length 0 l c (by omega) hn (by omega) k (by omega)
  rwa [List.take_zero, List.nil_append] at this
theorem heldIntS_ev (n c : Nat) (hn : n ≤ 1000000000000) (hc : c ≤ 1000000000000) : Ev (fun k => laws_heldIntS.f k (marks n c) (c : Int)) ((c + n : Nat) : Int) := by
  have hl : (marks n c).length = n := by simp [marks]
  refine ⟨n + 1, fun k hk => ?_⟩
  exact heldIntS_l0 n 0 (marks n c) c (by omega) (by omega) (by omega) (fun j hj => by rw [Nat.zero_add]; exact marks_get n c j hj) k (by omega)
/-- What is marked, and what is held behind it. -/
theorem ints_held (l : List Int) (hn : l.length ≤ 1000000000000) : ∃ (c : Int) (l' : List Int), 0 ≤ c ∧ Ev (fun k => laws_markIntS.f k l 1) (c, l') ∧ Ev (fun k => laws_heldIntS.f k l' 1) c :=
  ⟨_, _, by omega, markIntS_ev l 1 hn (by omega), heldIntS_ev l.length 1 hn (by omega)⟩
end Go.Proofs.YtedpdfmaccoinaaDoor.Pure
namespace Go.Proofs.YtedpdfmaccoinaaDoor.Pure
open Go.RowKit Go.Proofs.YtedpdfmaccoinaaDoor.P Go.Proofs.YtedpdfmaccoinaaDoorW.PrintWords Go.Proofs.YtedpdfmaccoinaaDoorW.PrintLast
theorem strOfNums_one (n : Int) : (strOfNums [n]).size = 1 := by
  simp [strOfNums, ByteArray.size]
theorem markText_l0 : ∀ (d : Nat) (n : Nat) (t : ByteArray), n ≤ d → n ≤ 4000000000000 → t.size + d ≤ 9000000000000000000 → ∃ s, Ev (fun k => laws_markText.l0 k (n : Int) t) s := by
  intro d
  induction d with
  | zero =>
    intro n t hn h4 ht
    refine ⟨(⟨#[109]⟩ : ByteArray) ++ t, Ev.step (f := fun _ => some ((⟨#[109]⟩ : ByteArray) ++ t)) (fun k => ?_) (Ev.now _)⟩
    simp only [laws_markText.l0]
    rw [if_neg (by omega), if_pos (by omega)]
  | succ d ih =>
    intro n t hn h4 ht
    by_cases h0 : n = 0
    · subst h0
      refine ⟨(⟨#[109]⟩ : ByteArray) ++ t, Ev.step (f := fun _ => some ((⟨#[109]⟩ : ByteArray) ++ t)) (fun k => ?_) (Ev.now _)⟩
      simp only [laws_markText.l0]
      rw [if_neg (by omega), if_pos (by omega)]
    · have hq : Int.tdiv (n : Int) 10 = ((n / 10 : Nat) : Int) := by rw [Int.tdiv_eq_ediv_of_nonneg (by omega)]; omega
      generalize hc : strOfNums [(wrap64 (48 + (Int.tmod (n : Int) 10))) % 256] = c
      have hc1 : c.size = 1 := by rw [← hc]; exact strOfNums_one _
      obtain ⟨s, hs⟩ := ih (n / 10) (c ++ t) (by omega) (by omega) (by rw [ByteArray.size_append]; omega)
      refine ⟨s, Ev.step (fun k => ?_) hs⟩
      simp only [laws_markText.l0, Option.bind_some, hc]
      rw [if_pos (by omega), if_pos (by omega), hq, w64 (by omega) (by omega)]
theorem markText_ev (n : Nat) (h : n ≤ 4000000000000) : ∃ s, Ev (fun k => laws_markText.f k (n : Int)) s := by
  unfold laws_markText.f
  by_cases h0 : (n : Int) ≤ 0
  · exact ⟨_, ev_if_pos h0 (Ev.now _)⟩
  · obtain ⟨s, hs⟩ := markText_l0 n n ⟨#[]⟩ (Nat.le_refl _) h (by simp [ByteArray.size]; omega)
    exact ⟨s, ev_if_neg h0 hs⟩
noncomputable def markT (n : Nat) : ByteArray := if h : n ≤ 4000000000000 then Classical.choose (markText_ev n h) else ByteArray.empty
theorem markT_ev (n : Nat) (h : n ≤ 4000000000000) : Ev (fun k => laws_markText.f k (n : Int)) (markT n) := by
  unfold markT
  rw [dif_pos h]
  exact Classical.choose_spec (markText_ev n h)
theorem markStringS_l0 : ∀ (d i : Nat) (l : List ByteArray) (c : Nat), l.length = i + d → l.length ≤ 1000000000000 → c + d ≤ 4000000000000 →
    Ev (fun k => laws_markStringS.l0 k l (c : Int) (i : Int)) (((c + d : Nat) : Int), l.take i ++ (List.range d).map (fun j => markT (c + j))) := by
  intro d
  induction d with
  | zero =>
    intro i l c hl hn hc
    refine Ev.step (f := fun _ => some (((c + 0 : Nat) : Int), l.take i ++ (List.range 0).map (fun j => markT (c + j)))) (fun k => ?_) (Ev.now _)
    simp only [laws_markStringS.l0]
    rw [if_neg (by omega), List.take_of_length_le (by omega)]
    simp
  | succ d ih =>
    intro i l c hl hn hc
    have next := ih (i + 1) (l.set i (markT c)) (c + 1) (by rw [List.length_set]; omega) (by rw [List.length_set]; omega) (by omega)
    rw [show c + 1 + d = c + (d + 1) by omega] at next
    have e : (l.set i (markT c)).take (i + 1) ++ (List.range d).map (fun j => markT (c + 1 + j)) = l.take i ++ (List.range (d + 1)).map (fun j => markT (c + j)) := by
      rw [List.take_succ_eq_append_getElem (by rw [List.length_set]; omega), List.getElem_set_self, List.take_set_of_le (by omega), List.append_assoc, List.range_succ_eq_map, List.map_cons, List.map_map]
      congr 1
      rw [List.singleton_append]
      congr 1
      refine List.map_congr_left fun j _ => ?_
      simp only [Function.comp]
      rw [show c + 1 + j = c + (j + 1) by omega]
    rw [e] at next
    have f1 : (i : Int) < (l.length : Int) := by omega
    have f2 : c ≤ 4000000000000 := by omega
    have f3 : 0 ≤ (i : Int) := by omega
    have e1 : wrap64 ((c : Int) + 1) = ((c + 1 : Nat) : Int) := by rw [w64 (by omega) (by omega)]; rfl
    have e2 : wrap64 ((i : Int) + 1) = ((i + 1 : Nat) : Int) := by rw [w64 (by omega) (by omega)]; rfl
    refine Ev.step (fun k => by simp only [laws_markStringS.l0, Int.toNat_natCast, e1, e2]; rfl) (ev_if_pos f1 (Ev.bind (markT_ev c f2) (ev_if_pos f3 next)))
theorem markStringS_ev (l : List ByteArray) (hn : l.length ≤ 1000000000000) : ∃ (c : Int) (l' : List ByteArray), 0 ≤ c ∧ Ev (fun k => laws_markStringS.f k l 1) (c, l') := by
  have s := markStringS_l0 l.length 0 l 1 (by omega) hn (by omega)
  exact ⟨_, _, by omega, s⟩
end Go.Proofs.YtedpdfmaccoinaaDoor.Pure
namespace Go.Proofs.YtedpdfmaccoinaaDoor.Pure
open Go.RowKit Go.Proofs.YtedpdfmaccoinaaDoor.P Go.Proofs.YtedpdfmaccoinaaDoorW.PrintWords Go.Proofs.YtedpdfmaccoinaaDoorW.PrintLast
theorem digitB_iff (b : UInt8) : digitB b = decide (48 ≤ b.toNat ∧ b.toNat ≤ 57) := by
  by_cases h : 48 ≤ b.toNat ∧ b.toNat ≤ 57
  · rw [decide_eq_true h]
    have hc : b.toNat = 48 ∨ b.toNat = 49 ∨ b.toNat = 50 ∨ b.toNat = 51 ∨ b.toNat = 52 ∨ b.toNat = 53 ∨ b.toNat = 54 ∨ b.toNat = 55 ∨ b.toNat = 56 ∨ b.toNat = 57 := by omega
    rcases hc with e | e | e | e | e | e | e | e | e | e
    · rw [show b = 48 from UInt8.toNat_inj.1 e]; decide
    · rw [show b = 49 from UInt8.toNat_inj.1 e]; decide
    · rw [show b = 50 from UInt8.toNat_inj.1 e]; decide
    · rw [show b = 51 from UInt8.toNat_inj.1 e]; decide
    · rw [show b = 52 from UInt8.toNat_inj.1 e]; decide
    · rw [show b = 53 from UInt8.toNat_inj.1 e]; decide
    · rw [show b = 54 from UInt8.toNat_inj.1 e]; decide
    · rw [show b = 55 from UInt8.toNat_inj.1 e]; decide
    · rw [show b = 56 from UInt8.toNat_inj.1 e]; decide
    · rw [show b = 57 from UInt8.toNat_inj.1 e]; decide
  · rw [decide_eq_false h]
    cases hd : digitB b with
    | false => rfl
    | true =>
      exfalso
      apply h
      unfold digitB at hd
      simp only [List.contains_eq_mem, List.mem_cons, List.not_mem_nil, or_false, decide_eq_true_eq] at hd
      rcases hd with rfl | rfl | rfl | rfl | rfl | rfl | rfl | rfl | rfl | rfl <;> decide
theorem bt_lt (s : ByteArray) (i : Nat) (h : i < s.size) : bt s (i : Int) = ((s.data.toList[i]'h).toNat : Int) := by
  unfold bt
  rw [dif_pos (by simpa using h)]
  rfl
def rowOk (n : Nat) (s : ByteArray) : Bool := decide (s.size = n) && s.data.toList.all digitB

theorem ntGood_l1 (x : List ByteArray) (s : ByteArray) (hs : s.size ≤ 1048576) (L : List ByteArray) (n q : Int) (r : Bool) (next : Ev (fun k => spec_ntGood.l0 k x L n (wrap64 (q + 1))) r) :
    ∀ (d i : Nat), i + d = s.size → Ev (fun k => spec_ntGood.l1 k x s (i : Int) L n q) ((s.data.toList.drop i).all digitB && r) := by
  intro d
  have hlen : s.data.toList.length = s.size := rfl
  induction d with
  | zero =>
    intro i hi
    rw [List.drop_of_length_le (by omega)]
    refine Ev.step (fun k => ?_) next
    simp only [spec_ntGood.l1]
    rw [if_neg (by omega)]
  | succ d ih =>
    intro i hi
    have hlt : i < s.size := by omega
    rw [List.drop_eq_getElem_cons (show i < s.data.toList.length by omega), List.all_cons, digitB_iff]
    have hb := bt_lt s i hlt
    generalize (s.data.toList[i]'hlt) = b at hb
    by_cases h1 : b.toNat < 48
    · rw [decide_eq_false (by omega), Bool.false_and, Bool.false_and]
      refine Ev.step (f := fun _ => some false) (fun k => ?_) (Ev.now _)
      simp only [spec_ntGood.l1, hb]
      rw [if_pos (by omega), if_pos (by omega), if_pos (by omega)]
    · by_cases h2 : b.toNat > 57
      · rw [decide_eq_false (by omega), Bool.false_and, Bool.false_and]
        refine Ev.step (f := fun _ => some false) (fun k => ?_) (Ev.now _)
        simp only [spec_ntGood.l1, hb]
        rw [if_pos (by omega), if_pos (by omega), if_neg (by omega), if_pos (by omega)]
      · rw [decide_eq_true (by omega), Bool.true_and]
        refine Ev.step (fun k => ?_) (ih (i + 1) (by omega))
        simp only [spec_ntGood.l1, hb]
        rw [if_pos (by omega), if_pos (by omega), if_neg (by omega), if_neg (by omega), w64 (by omega) (by omega)]
        rfl

theorem ntGood_l0 (l : List ByteArray) (hn : l.length ≤ 1048576) (hs : ∀ s ∈ l, s.size ≤ 1048576) (n : Nat) (h0 : (rdOf ByteArray.empty l 0).size = n) (hp : 0 < l.length) : ∀ (d i : Nat), i + d = l.length → Ev (fun k => spec_ntGood.l0 k l l (l.length : Int) (i : Int)) ((l.drop i).all (rowOk n)) := by
  intro d
  induction d with
  | zero =>
    intro i hi
    rw [List.drop_of_length_le (by omega)]
    refine Ev.step (f := fun _ => some true) (fun k => ?_) (Ev.now _)
    simp only [spec_ntGood.l0]
    rw [if_neg (by omega)]
  | succ d ih =>
    intro i hi
    have hlt : i < l.length := by omega
    rw [List.drop_eq_getElem_cons hlt, List.all_cons]
    unfold rowOk
    by_cases h : l[i].size = n
    · rw [decide_eq_true h, Bool.true_and]
      have s := ntGood_l1 l l[i] (hs _ (List.getElem_mem hlt)) l (l.length : Int) (i : Int) ((l.drop (i + 1)).all (rowOk n)) (by rw [w64 (by omega) (by omega)]; exact ih (i + 1) (by omega)) l[i].size 0 (by omega)
      rw [List.drop_zero] at s
      refine Ev.step (fun k => ?_) s
      simp only [spec_ntGood.l0, rs_lt l i hlt, h0]
      rw [if_pos (by omega), if_pos (by omega), if_pos (by omega), if_pos (by omega), if_pos (by omega)]
      rfl
    · rw [decide_eq_false h, Bool.false_and, Bool.false_and]
      refine Ev.step (f := fun _ => some false) (fun k => ?_) (Ev.now _)
      simp only [spec_ntGood.l0, rs_lt l i hlt, h0]
      rw [if_pos (by omega), if_pos (by omega), if_pos (by omega), if_pos (by omega), if_neg (by omega)]

/-- What nuts are: so many rows, each of so many digits. -/
structure Nuts (l : List ByteArray) (w : Nat) : Prop where
  rows1 : 1 ≤ l.length
  rows8 : l.length ≤ 8
  wide1 : 1 ≤ w
  wide8 : w ≤ 8
  wide : ∀ s ∈ l, s.size = w
  digit : ∀ s ∈ l, ∀ b ∈ s.data.toList, 48 ≤ b.toNat ∧ b.toNat ≤ 57

theorem not_any_not (p : ByteArray → Bool) : ∀ l : List ByteArray, (!(l.any fun s => !p s)) = l.all p
  | [] => rfl
  | x :: l => by rw [List.any_cons, List.all_cons, Bool.not_or, Bool.not_not, not_any_not p l]

theorem nutsB_eq (l : List ByteArray) (hp : 0 < l.length) : nutsB l = (decide (1 ≤ (l.length : Int) ∧ (l.length : Int) ≤ 8) && (decide ((1 : Int) ≤ ((l[0]).size : Int) ∧ ((l[0]).size : Int) ≤ (8 : Int)) && l.all (rowOk l[0].size))) := by
  unfold nutsB
  congr 1
  rw [getElem!_pos l 0 hp]
  generalize hn : l[0].size = n
  have h1 : (!l.any (badRow (n : Int) 8)) = l.all fun s => (decide ((s.size : Int) = (n : Int)) && (decide (1 ≤ (s.size : Int) ∧ (s.size : Int) ≤ 8) && s.data.toList.all digitB)) := by
    exact not_any_not _ l
  rw [h1]
  by_cases hb : 1 ≤ (n : Int) ∧ (n : Int) ≤ 8
  · rw [decide_eq_true hb, Bool.true_and]
    have : ∀ s : ByteArray, (decide ((s.size : Int) = (n : Int)) && (decide (1 ≤ (s.size : Int) ∧ (s.size : Int) ≤ 8) && s.data.toList.all digitB)) = rowOk n s := by
      intro s
      unfold rowOk
      by_cases e : s.size = n
      · rw [decide_eq_true e, decide_eq_true (by omega), decide_eq_true (by omega), Bool.true_and]
      · rw [decide_eq_false e, decide_eq_false (by omega), Bool.false_and, Bool.false_and]
    simp only [this]
  · rw [decide_eq_false hb, Bool.false_and]
    rw [List.all_eq_false]
    refine ⟨l[0], List.getElem_mem hp, ?_⟩
    rw [hn, decide_eq_false hb]
    simp

theorem size_le_sizes : ∀ (l : List ByteArray) (s : ByteArray), s ∈ l → s.size ≤ sizes l
  | x :: l, s, h => by
    have e : sizes (x :: l) = x.size + sizes l := rfl
    rcases List.mem_cons.1 h with rfl | h
    · omega
    · have := size_le_sizes l s h
      omega
theorem good_both (l : List ByteArray) (hn : l.length ≤ 1048576) (hz : sizes l ≤ 1048576) : ∃ b : Bool, Ev (fun k => spec_ntGood.f k l) b ∧ impl_AreNuts.f l = some b ∧ (b = true → ∃ w, Nuts l w) := by
  have hs : ∀ s ∈ l, s.size ≤ 1048576 := by
    intro s hs
    have : s.size ≤ sizes l := by
      exact size_le_sizes l s hs
    omega
  have hI : impl_AreNuts.f l = some (nutsB l) := by
    unfold impl_AreNuts.f
    rw [if_pos]
    rw [List.all_eq_true]
    intro s h
    have := hs s h
    exact decide_eq_true (by omega)
  refine ⟨nutsB l, ?_, hI, ?_⟩
  · unfold spec_ntGood.f
    simp only [l1In_some, Option.bind_some]
    by_cases h : 1 ≤ (l.length : Int) ∧ (l.length : Int) ≤ 8
    · have hp : 0 < l.length := by omega
      have h0 : rdOf ByteArray.empty l 0 = l[0] := rs_lt l 0 hp
      rw [nutsB_eq l hp, decide_eq_true h, Bool.true_and]
      simp only [if_true, h0, if_pos (show 0 < (l.length : Int) by omega)]
      by_cases h2 : (1 : Int) ≤ ((l[0]).size : Int) ∧ ((l[0]).size : Int) ≤ (8 : Int)
      · rw [decide_eq_true h2, Bool.true_and]
        have s := ntGood_l0 l hn hs l[0].size (by rw [h0]) hp l.length 0 (by omega)
        rw [List.drop_zero] at s
        exact Ev.step (fun k => by simp only [spec_ntGood.j0, Bool.not_true, Bool.false_eq_true, if_false]; rfl) s
      · rw [decide_eq_false h2, Bool.false_and]
        exact Ev.step (fun k => by simp only [spec_ntGood.j0, Bool.not_false, if_true]) (Ev.now _)
    · have : nutsB l = false := by
        unfold nutsB
        rw [decide_eq_false h, Bool.false_and]
      rw [this, decide_eq_false h]
      simp only [Bool.false_eq_true, if_false]
      exact Ev.step (fun k => by simp only [spec_ntGood.j0, if_true]) (Ev.now _)
  · intro h
    have hp : 0 < l.length := by
      unfold nutsB at h
      rw [Bool.and_eq_true, decide_eq_true_eq] at h
      omega
    rw [nutsB_eq l hp] at h
    simp only [Bool.and_eq_true, decide_eq_true_eq, List.all_eq_true] at h
    obtain ⟨h1, h2, h3⟩ := h
    refine ⟨l[0].size, by omega, by omega, by omega, by omega, fun s hs' => ?_, fun s hs' b hb => ?_⟩
    · have := h3 s hs'
      unfold rowOk at this
      rw [Bool.and_eq_true, decide_eq_true_eq] at this
      exact this.1
    · have := h3 s hs'
      unfold rowOk at this
      rw [Bool.and_eq_true, List.all_eq_true] at this
      have := this.2 b hb
      rw [digitB_iff, decide_eq_true_eq] at this
      exact this
end Go.Proofs.YtedpdfmaccoinaaDoor.Pure
namespace Go.Proofs.YtedpdfmaccoinaaDoor.Pure
open Go.RowKit Go.Proofs.YtedpdfmaccoinaaDoor.P Go.Proofs.YtedpdfmaccoinaaDoorW.PrintWords Go.Proofs.YtedpdfmaccoinaaDoorW.PrintLast
def dg (s : ByteArray) (i : Nat) : Int := bt s (i : Int) - 48
def rowSum (s : ByteArray) : Nat → Nat → Int
  | _, 0 => 0
  | i, d + 1 => dg s i + rowSum s (i + 1) d
def partSum (l : List ByteArray) (x W : Nat) : Nat → Nat → Int
  | _, 0 => 0
  | j, d + 1 => rowSum (rdOf ByteArray.empty l (j : Int)) x W + partSum l x W (j + 1) d
/-- A row of digits. -/
def Digits (s : ByteArray) (w : Nat) : Prop := s.size = w ∧ w ≤ 8 ∧ ∀ i, i < w → 48 ≤ bt s (i : Int) ∧ bt s (i : Int) ≤ 57
theorem Nuts.row {l : List ByteArray} {w : Nat} (h : Nuts l w) (j : Nat) (hj : j < l.length) : Digits (rdOf ByteArray.empty l (j : Int)) w := by
  rw [rs_lt l j hj]
  have hs := h.wide l[j] (List.getElem_mem hj)
  refine ⟨hs, h.wide8, fun i hi => ?_⟩
  rw [bt_lt _ i (by omega)]
  have := h.digit l[j] (List.getElem_mem hj) (l[j].data.toList[i]'(by show i < l[j].size; omega)) (List.getElem_mem _)
  omega
theorem rowSum_bd (s : ByteArray) (w : Nat) (h : Digits s w) : ∀ (d i : Nat), i + d ≤ w → 0 ≤ rowSum s i d ∧ rowSum s i d ≤ 9 * d := by
  intro d
  induction d with
  | zero => intro i hi; exact ⟨Int.le_refl _, by simp [rowSum]⟩
  | succ d ih =>
    intro i hi
    have a := ih (i + 1) (by omega)
    have b := h.2.2 i (by omega)
    have e : rowSum s i (d + 1) = (bt s (i : Int) - 48) + rowSum s (i + 1) d := rfl
    rw [e]
    omega
theorem partSum_bd {l : List ByteArray} {w : Nat} (h : Nuts l w) (x W : Nat) (hx : x + W ≤ w) : ∀ (d j : Nat), j + d ≤ l.length → 0 ≤ partSum l x W j d ∧ partSum l x W j d ≤ 72 * d := by
  intro d
  induction d with
  | zero => intro j hj; exact ⟨Int.le_refl _, by simp [partSum]⟩
  | succ d ih =>
    intro j hj
    have a := ih (j + 1) (by omega)
    have b := rowSum_bd _ w (h.row j (by omega)) W x hx
    have e : partSum l x W j (d + 1) = rowSum (rdOf ByteArray.empty l (j : Int)) x W + partSum l x W (j + 1) d := rfl
    have w8 := h.wide8
    rw [e]
    omega

section
variable {l : List ByteArray} {w : Nat}
theorem spec_sum_l1 (h : Nuts l w) (x X Y y : Nat) (hX : X ≤ w) (hy : y < l.length) (r : Int) (a0 : Int) (ha0 : 0 ≤ a0) (ha1 : a0 ≤ 100000)
    (next : Ev (fun k => spec_ntSum.l0 k l (x : Int) (X : Int) (Y : Int) (a0 + rowSum (rdOf ByteArray.empty l (y : Int)) x (X - x)) ((y + 1 : Nat) : Int)) r) :
    ∀ (d i : Nat) (a : Int), i + d = X → x ≤ i → a + rowSum (rdOf ByteArray.empty l (y : Int)) i d = a0 + rowSum (rdOf ByteArray.empty l (y : Int)) x (X - x) → 0 ≤ a → Ev (fun k => spec_ntSum.l1 k l (x : Int) (X : Int) (Y : Int) a (y : Int) (i : Int)) r := by
  have hd := h.row y hy
  have hl8 := h.rows8
  intro d
  induction d with
  | zero =>
    intro i a hi hxi ha h0
    have e : a = a0 + rowSum (rdOf ByteArray.empty l (y : Int)) x (X - x) := by rw [← ha]; simp [rowSum]
    subst e
    refine Ev.step (fun k => ?_) next
    simp only [spec_ntSum.l1]
    rw [if_neg (by omega), w64 (by omega) (by omega)]
    rfl
  | succ d ih =>
    intro i a hi hxi ha h0
    have b := hd.2.2 i (by omega)
    have hs := hd.1
    have bd := rowSum_bd _ w hd (X - x) x (by omega)
    have bd2 := rowSum_bd _ w hd d (i + 1) (by omega)
    have e1 : rowSum (rdOf ByteArray.empty l (y : Int)) i (d + 1) = (bt (rdOf ByteArray.empty l (y : Int)) (i : Int) - 48) + rowSum (rdOf ByteArray.empty l (y : Int)) (i + 1) d := rfl
    have w8 := h.wide8
    rw [e1] at ha
    refine Ev.step (fun k => ?_) (ih (i + 1) (a + (bt (rdOf ByteArray.empty l (y : Int)) (i : Int) - 48)) (by omega) (by omega) (by omega) (by omega))
    simp only [spec_ntSum.l1]
    rw [if_pos (by omega), if_pos (by omega), if_pos (by omega), if_pos (by omega), if_pos (by omega), w64 (x := (i : Int) + 1) (by omega) (by omega), show (bt (rdOf ByteArray.empty l (y : Int)) (i : Int) - 48) % 256 = bt (rdOf ByteArray.empty l (y : Int)) (i : Int) - 48 by omega, w64 (by omega) (by omega)]
    rfl
theorem spec_sum_l0 (h : Nuts l w) (x X Y : Nat) (hxX : x ≤ X) (hX : X ≤ w) (hY : Y ≤ l.length) :
    ∀ (d j : Nat) (a : Int), j + d = Y → 0 ≤ a → a ≤ 72 * j → Ev (fun k => spec_ntSum.l0 k l (x : Int) (X : Int) (Y : Int) a (j : Int)) (a + partSum l x (X - x) j d) := by
  have hl8 := h.rows8
  have w8 := h.wide8
  intro d
  induction d with
  | zero =>
    intro j a hj h0 h1
    refine Ev.step (f := fun _ => some (a + partSum l x (X - x) j 0)) (fun k => ?_) (Ev.now _)
    simp only [spec_ntSum.l0]
    rw [if_neg (by omega)]
    simp [partSum]
  | succ d ih =>
    intro j a hj h0 h1
    have bd := rowSum_bd _ w (h.row j (by omega)) (X - x) x (by omega)
    have next := ih (j + 1) (a + rowSum (rdOf ByteArray.empty l (j : Int)) x (X - x)) (by omega) (by omega) (by omega)
    have e : a + partSum l x (X - x) j (d + 1) = a + rowSum (rdOf ByteArray.empty l (j : Int)) x (X - x) + partSum l x (X - x) (j + 1) d := by
      show a + (_ + _) = _
      omega
    rw [e]
    refine Ev.step (fun k => ?_) (spec_sum_l1 h x X Y j hX (by omega) _ a h0 (by omega) next (X - x) x a (by omega) (Nat.le_refl _) rfl h0)
    simp only [spec_ntSum.l0]
    rw [if_pos (by omega)]
theorem ntSum_ev (h : Nuts l w) (x y X Y : Nat) (hxX : x ≤ X) (hX : X ≤ w) (hyY : y ≤ Y) (hY : Y ≤ l.length) : Ev (fun k => spec_ntSum.f k l (x : Int) (y : Int) (X : Int) (Y : Int)) (partSum l x (X - x) y (Y - y)) := by
  have := spec_sum_l0 h x X Y hxX hX hY (Y - y) y 0 (by omega) (Int.le_refl _) (by omega)
  rw [Int.zero_add] at this
  exact this

theorem impl_sum_l1 (h : Nuts l w) (L : List ByteArray) (n q : Int) (s : ByteArray) (hd : Digits s w) (x y W H : Nat) (hW : x + W ≤ w) (r : Int) (a0 : Int) (ha0 : 0 ≤ a0) (ha1 : a0 ≤ 100000)
    (next : Ev (fun k => impl_nutsIn.l0 k (a0 + rowSum s x W) L n (wrap64 (q + 1)) (x : Int) (y : Int) (W : Int) (H : Int)) r) :
    ∀ (d i : Nat) (a : Int), i + d = x + W → x ≤ i → a + rowSum s i d = a0 + rowSum s x W → 0 ≤ a → Ev (fun k => impl_nutsIn.l1 k a s (i : Int) L n q (x : Int) (y : Int) (W : Int) (H : Int)) r := by
  have hl8 := h.rows8
  have w8 := h.wide8
  have wX : wrap64 ((x : Int) + (W : Int)) = (x : Int) + (W : Int) := w64 (by omega) (by omega)
  intro d
  induction d with
  | zero =>
    intro i a hi hxi ha h0
    have e : a = a0 + rowSum s x W := by rw [← ha]; simp [rowSum]
    subst e
    refine Ev.step (fun k => ?_) next
    simp only [impl_nutsIn.l1, wX]
    rw [if_neg (by omega)]
  | succ d ih =>
    intro i a hi hxi ha h0
    have b := hd.2.2 i (by omega)
    have hs := hd.1
    have bd := rowSum_bd _ w hd W x (by omega)
    have bd2 := rowSum_bd _ w hd d (i + 1) (by omega)
    have e1 : rowSum s i (d + 1) = (bt s (i : Int) - 48) + rowSum s (i + 1) d := rfl
    rw [e1] at ha
    refine Ev.step (fun k => ?_) (ih (i + 1) (a + (bt s (i : Int) - 48)) (by omega) (by omega) (by omega) (by omega))
    simp only [impl_nutsIn.l1, wX]
    rw [if_pos (by omega), if_pos (by omega), if_pos (by omega), w64 (x := (i : Int) + 1) (by omega) (by omega), show (bt s (i : Int) - 48) % 256 = bt s (i : Int) - 48 by omega, w64 (by omega) (by omega)]
    rfl
theorem impl_sum_l0 (h : Nuts l w) (x y W H : Nat) (hW : x + W ≤ w) (hH : y + H ≤ l.length) (L : List ByteArray) (hL : L.length = H) (hr : ∀ j, j < H → rdOf ByteArray.empty L (j : Int) = rdOf ByteArray.empty l ((y + j : Nat) : Int)) :
    ∀ (d j : Nat) (a : Int), j + d = H → 0 ≤ a → a ≤ 72 * j → Ev (fun k => impl_nutsIn.l0 k a L (L.length : Int) (j : Int) (x : Int) (y : Int) (W : Int) (H : Int)) (a + partSum l x W (y + j) d) := by
  have hl8 := h.rows8
  have w8 := h.wide8
  intro d
  induction d with
  | zero =>
    intro j a hj h0 h1
    refine Ev.step (f := fun _ => some (a + partSum l x W (y + j) 0)) (fun k => ?_) (Ev.now _)
    simp only [impl_nutsIn.l0]
    rw [if_neg (by omega)]
    simp [partSum]
  | succ d ih =>
    intro j a hj h0 h1
    have hd := h.row (y + j) (by omega)
    have bd := rowSum_bd _ w hd W x (by omega)
    have next := ih (j + 1) (a + rowSum (rdOf ByteArray.empty l ((y + j : Nat) : Int)) x W) (by omega) (by omega) (by omega)
    have e : a + partSum l x W (y + j) (d + 1) = a + rowSum (rdOf ByteArray.empty l ((y + j : Nat) : Int)) x W + partSum l x W (y + (j + 1)) d := by
      show a + (_ + _) = _
      rw [show y + j + 1 = y + (j + 1) by omega]
      omega
    rw [e]
    refine Ev.step (fun k => ?_) (impl_sum_l1 h L (L.length : Int) (j : Int) _ hd x y W H hW _ a h0 (by omega) (by rw [w64 (by omega) (by omega)]; exact next) W x a (by omega) (Nat.le_refl _) rfl h0)
    simp only [impl_nutsIn.l0, hr j (by omega)]
    rw [if_pos (by omega), if_pos (by omega), if_pos (by omega)]
theorem nutsIn_ev (h : Nuts l w) (x y W H : Nat) (hW : x + W ≤ w) (hH : y + H ≤ l.length) : Ev (fun k => impl_nutsIn.f k l (x : Int) (y : Int) (W : Int) (H : Int)) (partSum l x W y H) := by
  have hl8 := h.rows8
  have w8 := h.wide8
  have wY : wrap64 ((y : Int) + (H : Int)) = ((y + H : Nat) : Int) := by rw [w64 (by omega) (by omega)]; omega
  have hlen : ((l.take (y + H)).drop y).length = H := by rw [List.length_drop, List.length_take]; omega
  have := impl_sum_l0 h x y W H hW hH ((l.take (y + H)).drop y) hlen (fun j hj => by
    rw [rs_lt _ j (by omega), rs_lt _ (y + j) (by omega)]
    simp) H 0 0 (by omega) (Int.le_refl _) (by omega)
  rw [Int.zero_add, Nat.add_zero] at this
  unfold impl_nutsIn.f
  simp only [wY, Int.toNat_natCast]
  simp only [if_pos (show 0 ≤ (y : Int) by omega), if_pos (show (y : Int) ≤ ((y + H : Nat) : Int) by omega), if_pos (show ((y + H : Nat) : Int) ≤ (l.length : Int) by omega)]
  exact this
end
end Go.Proofs.YtedpdfmaccoinaaDoor.Pure
namespace Go.Proofs.YtedpdfmaccoinaaDoor.Pure
open Go.RowKit Go.Proofs.YtedpdfmaccoinaaDoor.P Go.Proofs.YtedpdfmaccoinaaDoorW.PrintWords Go.Proofs.YtedpdfmaccoinaaDoorW.PrintLast Go.Proofs.YtedpdfmaccoinaaDoorW.PrintMore
theorem rowSum_split (s : ByteArray) (b : Nat) : ∀ (a i : Nat), rowSum s i (a + b) = rowSum s i a + rowSum s (i + a) b := by
  intro a
  induction a with
  | zero => intro i; rw [Nat.zero_add, Nat.add_zero]; simp [rowSum]
  | succ a ih =>
    intro i
    rw [show a + 1 + b = a + b + 1 by omega]
    show dg s i + rowSum s (i + 1) (a + b) = (dg s i + rowSum s (i + 1) a) + _
    rw [ih (i + 1), show i + 1 + a = i + (a + 1) by omega, Int.add_assoc]
theorem partSum_cols (l : List ByteArray) (x a b : Nat) : ∀ (d j : Nat), partSum l x (a + b) j d = partSum l x a j d + partSum l (x + a) b j d := by
  intro d
  induction d with
  | zero => intro j; simp [partSum]
  | succ d ih =>
    intro j
    show rowSum _ x (a + b) + partSum l x (a + b) (j + 1) d = (rowSum _ x a + partSum l x a (j + 1) d) + (rowSum _ (x + a) b + partSum l (x + a) b (j + 1) d)
    rw [ih (j + 1), rowSum_split]
    omega
theorem partSum_rows (l : List ByteArray) (x W b : Nat) : ∀ (a j : Nat), partSum l x W j (a + b) = partSum l x W j a + partSum l x W (j + a) b := by
  intro a
  induction a with
  | zero => intro j; rw [Nat.zero_add, Nat.add_zero]; simp [partSum]
  | succ a ih =>
    intro j
    rw [show a + 1 + b = a + b + 1 by omega]
    show rowSum _ x W + partSum l x W (j + 1) (a + b) = (rowSum _ x W + partSum l x W (j + 1) a) + _
    rw [ih (j + 1), show j + 1 + a = j + (a + 1) by omega, Int.add_assoc]
def ab (x : Int) : Int := if x < 0 then -x else x
theorem ab_pos (x : Int) : 0 ≤ ab x := by unfold ab; by_cases h : x < 0 <;> simp only [h, if_true, if_false] <;> omega
def brk (l : List ByteArray) (w : Nat) (v : Bool) (p : Nat) : Int := if v then ab (partSum l p (w - p) 0 l.length - partSum l 0 p 0 l.length) else ab (partSum l 0 w p (l.length - p) - partSum l 0 w 0 p)
theorem brk_pos (l : List ByteArray) (w : Nat) (v : Bool) (p : Nat) : 0 ≤ brk l w v p := by cases v <;> exact ab_pos _
theorem abs_some (x : Int) (h0 : -1000000 ≤ x) (h1 : x ≤ 1000000) : spec_l1Abs.f x = some (ab x) := by
  unfold spec_l1Abs.f spec_l1Most.f ab
  rw [w64 (by omega) (by omega)]
  by_cases c : x > -x
  · rw [if_pos c, if_neg (by omega)]; rfl
  · rw [if_neg c]
    by_cases c2 : x < 0
    · rw [if_pos c2]; rfl
    · rw [if_neg c2, show -x = x by omega]; rfl
theorem mx_ab (x : Int) (h0 : -1000000 ≤ x) (h1 : x ≤ 1000000) : mx (wrap64 x) (wrap64 (-(wrap64 x))) = ab (-x) := by
  rw [w64 (x := x) (by omega) (by omega), w64 (by omega) (by omega)]
  unfold mx ab
  by_cases c : x < -x
  · rw [if_pos c, if_neg (by omega)]
  · rw [if_neg c]
    by_cases c2 : -x < 0
    · rw [if_pos c2]; omega
    · rw [if_neg c2]; omega
section
variable {l : List ByteArray} {w : Nat}
theorem all_ev (h : Nuts l w) : Ev (fun k => spec_ntAll.f k l) (partSum l 0 w 0 l.length) := by
  have hp := h.rows1
  have h0 : ((rdOf ByteArray.empty l 0).size : Int) = (w : Int) := by
    have := (h.row 0 (by omega)).1
    simp only [Int.natCast_zero] at this
    omega
  have s := ntSum_ev h 0 0 w l.length (by omega) (Nat.le_refl _) (by omega) (Nat.le_refl _)
  unfold spec_ntAll.f
  refine ev_if_pos (by omega) ?_
  rw [h0]
  exact Ev.bind s (Ev.now _)
theorem ntBreak_ev (h : Nuts l w) (v : Bool) (p : Nat) (hp : 1 ≤ p) (hv : p < (if v then w else l.length)) : Ev (fun k => spec_ntBreak.f k l v (p : Int)) (brk l w v p) := by
  have h8 := h.rows8
  have w8 := h.wide8
  have h1 := h.rows1
  have h0 : ((rdOf ByteArray.empty l 0).size : Int) = (w : Int) := by
    have := (h.row 0 (by omega)).1
    simp only [Int.natCast_zero] at this
    omega
  have ha := all_ev h
  cases v with
  | true =>
    have hv : p < w := hv
    have s := ntSum_ev h 0 0 p l.length (by omega) (by omega) (by omega) (Nat.le_refl _)
    have e := partSum_cols l 0 p (w - p) l.length 0
    rw [show p + (w - p) = w by omega, Nat.zero_add] at e
    have bd1 := partSum_bd h 0 p (by omega) l.length 0 (by omega)
    have bd2 := partSum_bd h p (w - p) (by omega) l.length 0 (by omega)
    unfold spec_ntBreak.f
    refine ev_if_pos rfl (Ev.bind s (Ev.bind ha ?_))
    rw [Nat.sub_zero, Nat.sub_zero, w64 (x := 2 * _) (by omega) (by omega), w64 (by omega) (by omega)]
    refine ev_val (abs_some _ (by omega) (by omega)) ?_
    rw [show partSum l 0 w 0 l.length - 2 * partSum l 0 p 0 l.length = partSum l p (w - p) 0 l.length - partSum l 0 p 0 l.length by omega]
    exact Ev.now _
  | false =>
    have hv : p < l.length := hv
    have s := ntSum_ev h 0 0 w p (by omega) (by omega) (by omega) (by omega)
    have e := partSum_rows l 0 w (l.length - p) p 0
    rw [show p + (l.length - p) = l.length by omega, Nat.zero_add] at e
    have bd1 := partSum_bd h 0 w (by omega) p 0 (by omega)
    have bd2 := partSum_bd h 0 w (by omega) (l.length - p) p (by omega)
    unfold spec_ntBreak.f
    refine ev_if_neg (by decide) (ev_if_pos (by omega) ?_)
    rw [h0]
    refine Ev.bind s (Ev.bind ha ?_)
    rw [Nat.sub_zero, Nat.sub_zero, w64 (x := 2 * _) (by omega) (by omega), w64 (by omega) (by omega)]
    refine ev_val (abs_some _ (by omega) (by omega)) ?_
    rw [show partSum l 0 w 0 l.length - 2 * partSum l 0 w 0 p = partSum l 0 w p (l.length - p) - partSum l 0 w 0 p by omega]
    exact Ev.now _
theorem whole_some (h : Nuts l w) : impl_whole.f l = some (0, 0, (w : Int), (l.length : Int)) := by
  have hp := h.rows1
  have h0 : ((rdOf ByteArray.empty l 0).size : Int) = (w : Int) := by
    have := (h.row 0 (by omega)).1
    simp only [Int.natCast_zero] at this
    omega
  unfold impl_whole.f
  rw [if_pos (by omega), h0]
theorem apart_ev (h : Nuts l w) (v : Bool) (p : Nat) (hp : 1 ≤ p) (hv : p < (if v then w else l.length)) : Ev (fun k => impl_apart.f k l v (p : Int)) (brk l w v p) := by
  have h8 := h.rows8
  have w8 := h.wide8
  have h1 := h.rows1
  unfold impl_apart.f
  refine ev_val (whole_some h) ?_
  cases v with
  | true =>
    have hv : p < w := hv
    have hb : impl_part_broken.f 0 0 (w : Int) (l.length : Int) true (p : Int) = some (0, 0, (p : Int), (l.length : Int), (p : Int), 0, ((w - p : Nat) : Int), (l.length : Int)) := by
      unfold impl_part_broken.f impl_Bar_broken.f
      rw [if_pos rfl, within_some, w64 (x := (w : Int) - (p : Int)) (by omega) (by omega), show (w : Int) - (p : Int) = ((w - p : Nat) : Int) by omega]
      simp only [Option.bind_some, if_true]
      rw [w64 (x := (0 : Int) + (p : Int)) (by omega) (by omega), Int.zero_add]
    have bd1 := partSum_bd h 0 p (by omega) l.length 0 (by omega)
    have bd2 := partSum_bd h p (w - p) (by omega) l.length 0 (by omega)
    refine ev_val hb (Ev.bind (nutsIn_ev h 0 0 p l.length (by omega) (by omega)) (Ev.bind (nutsIn_ev h p 0 (w - p) l.length (by omega) (by omega)) ?_))
    rw [mx_ab _ (by omega) (by omega), show -(partSum l 0 p 0 l.length - partSum l p (w - p) 0 l.length) = partSum l p (w - p) 0 l.length - partSum l 0 p 0 l.length by omega]
    exact Ev.now _
  | false =>
    have hv : p < l.length := hv
    have hb : impl_part_broken.f 0 0 (w : Int) (l.length : Int) false (p : Int) = some (0, 0, (w : Int), (p : Int), 0, (p : Int), (w : Int), ((l.length - p : Nat) : Int)) := by
      unfold impl_part_broken.f impl_Bar_broken.f
      rw [if_neg (by decide), within_some, w64 (x := (l.length : Int) - (p : Int)) (by omega) (by omega), show (l.length : Int) - (p : Int) = ((l.length - p : Nat) : Int) by omega]
      simp only [Option.bind_some, Bool.false_eq_true, if_false]
      rw [w64 (x := (0 : Int) + (p : Int)) (by omega) (by omega), Int.zero_add]
    have bd1 := partSum_bd h 0 w (by omega) p 0 (by omega)
    have bd2 := partSum_bd h 0 w (by omega) (l.length - p) p (by omega)
    refine ev_val hb (Ev.bind (nutsIn_ev h 0 0 w p (by omega) (by omega)) (Ev.bind (nutsIn_ev h 0 p w (l.length - p) (by omega) (by omega)) ?_))
    rw [mx_ab _ (by omega) (by omega), show -(partSum l 0 w 0 p - partSum l 0 w p (l.length - p)) = partSum l 0 w p (l.length - p) - partSum l 0 w 0 p by omega]
    exact Ev.now _
end
def cutsOf (v : Bool) : Nat → Nat → List (Bool × Nat)
  | _, 0 => []
  | i, d + 1 => (v, i) :: cutsOf v (i + 1) d
def mkC (c : Bool × Nat) : S58 := ⟨c.1, (c.2 : Int)⟩
theorem cutsOf_mem (v : Bool) : ∀ (d i : Nat) (c : Bool × Nat), c ∈ cutsOf v i d → c.1 = v ∧ i ≤ c.2 ∧ c.2 < i + d := by
  intro d
  induction d with
  | zero => intro i c hc; exact absurd hc (List.not_mem_nil)
  | succ d ih =>
    intro i c hc
    rcases List.mem_cons.1 hc with rfl | hc
    · exact ⟨rfl, Nat.le_refl _, by show i < i + (d + 1); omega⟩
    · have := ih (i + 1) c hc
      exact ⟨this.1, by omega, by omega⟩
theorem cutsOf_len (v : Bool) : ∀ (d i : Nat), (cutsOf v i d).length = d
  | 0, _ => rfl
  | d + 1, i => by rw [show cutsOf v i (d + 1) = (v, i) :: cutsOf v (i + 1) d from rfl, List.length_cons, cutsOf_len v d]
theorem cuts_l1 (w h : Nat) (hh : h ≤ 100) : ∀ (d i : Nat) (acc : List S58), i + d = h → acc.length + d ≤ 1000 → Ev (fun k => impl_Bar_cuts.l1 k acc (i : Int) (w : Int) (h : Int)) (acc ++ (cutsOf false i d).map mkC) := by
  intro d
  induction d with
  | zero =>
    intro i acc hi ha
    refine Ev.step (f := fun _ => some acc) (fun k => ?_) (by rw [show acc ++ (cutsOf false i 0).map mkC = acc from List.append_nil _]; exact Ev.now _)
    simp only [impl_Bar_cuts.l1]
    rw [if_neg (by omega)]
  | succ d ih =>
    intro i acc hi ha
    have n := ih (i + 1) (acc ++ [mkC (false, i)]) (by omega) (by rw [List.length_append, List.length_singleton]; omega)
    rw [show acc ++ (cutsOf false i (d + 1)).map mkC = (acc ++ [mkC (false, i)]) ++ (cutsOf false (i + 1) d).map mkC by simp [cutsOf]]
    refine Ev.step (fun k => ?_) n
    simp only [impl_Bar_cuts.l1]
    rw [if_pos (by omega), if_pos (by omega), w64 (by omega) (by omega)]
    rfl
theorem cuts_l0 (w h : Nat) (hh : h ≤ 100) (hw : w ≤ 100) (hh1 : 1 ≤ h) : ∀ (d i : Nat) (acc : List S58), i + d = w → acc.length + d ≤ 500 → Ev (fun k => impl_Bar_cuts.l0 k acc (i : Int) (w : Int) (h : Int)) (acc ++ (cutsOf true i d ++ cutsOf false 1 (h - 1)).map mkC) := by
  intro d
  induction d with
  | zero =>
    intro i acc hi ha
    have n := cuts_l1 w h hh (h - 1) 1 acc (by omega) (by omega)
    refine Ev.step (fun k => ?_) n
    simp only [impl_Bar_cuts.l0]
    rw [if_neg (by omega)]
    rfl
  | succ d ih =>
    intro i acc hi ha
    have n := ih (i + 1) (acc ++ [mkC (true, i)]) (by omega) (by rw [List.length_append, List.length_singleton]; omega)
    rw [show acc ++ (cutsOf true i (d + 1) ++ cutsOf false 1 (h - 1)).map mkC = (acc ++ [mkC (true, i)]) ++ (cutsOf true (i + 1) d ++ cutsOf false 1 (h - 1)).map mkC by simp [cutsOf]]
    refine Ev.step (fun k => ?_) n
    simp only [impl_Bar_cuts.l0]
    rw [if_pos (by omega), if_pos (by omega), w64 (by omega) (by omega)]
    rfl
theorem rd_mkC (cs : List (Bool × Nat)) (i : Nat) (h : i < cs.length) : rd_T58 (cs.map mkC) (i : Int) = mkC cs[i] := by
  unfold rd_T58
  rw [Int.toNat_natCast, List.getD_eq_getElem?_getD, List.getElem?_map, List.getElem?_eq_getElem h]
  rfl
/-- All breaks of a bar. -/
def cuts (w h : Nat) : List (Bool × Nat) := cutsOf true 1 (w - 1) ++ cutsOf false 1 (h - 1)
theorem cuts_ev (w h : Nat) (hh : h ≤ 100) (hw : w ≤ 100) (hh1 : 1 ≤ h) (hw1 : 1 ≤ w) : Ev (fun k => impl_Bar_cuts.f k (w : Int) (h : Int)) ((cuts w h).map mkC) := by
  have := cuts_l0 w h hh hw hh1 (w - 1) 1 [] (by omega) (by simp; omega)
  rw [List.nil_append] at this
  exact this
theorem cuts_mem (w h : Nat) (c : Bool × Nat) (hc : c ∈ cuts w h) : 1 ≤ c.2 ∧ c.2 < (if c.1 then w else h) := by
  rcases List.mem_append.1 hc with hc | hc
  · have := cutsOf_mem true _ _ _ hc
    rw [this.1]
    exact ⟨this.2.1, by rw [if_pos rfl]; omega⟩
  · have := cutsOf_mem false _ _ _ hc
    rw [this.1]
    exact ⟨this.2.1, by rw [if_neg (by decide)]; omega⟩
theorem cuts_len (w h : Nat) : (cuts w h).length = (w - 1) + (h - 1) := by unfold cuts; rw [List.length_append, cutsOf_len, cutsOf_len]
end Go.Proofs.YtedpdfmaccoinaaDoor.Pure
namespace Go.Proofs.YtedpdfmaccoinaaDoor.Pure
open Go.RowKit Go.Proofs.YtedpdfmaccoinaaDoor.P Go.Proofs.YtedpdfmaccoinaaDoorW.PrintWords Go.Proofs.YtedpdfmaccoinaaDoorW.PrintLast
def eqs (l : List ByteArray) (w : Nat) (b : List Int × List Int) (c : Bool × Nat) : List Int × List Int := if brk l w c.1 c.2 = 0 then (if c.1 = true then (b.1 ++ [(c.2 : Int)], b.2) else (b.1, b.2 ++ [(c.2 : Int)])) else b
theorem eqs_len (l : List ByteArray) (w : Nat) (b : List Int × List Int) (c : Bool × Nat) : (eqs l w b c).1.length ≤ b.1.length + 1 ∧ (eqs l w b c).2.length ≤ b.2.length + 1 := by
  unfold eqs
  by_cases h : brk l w c.1 c.2 = 0
  · rw [if_pos h]
    by_cases h2 : c.1 = true
    · rw [if_pos h2]; simp
    · rw [if_neg h2]; simp
  · rw [if_neg h]; simp
theorem eqs_fold_len (l : List ByteArray) (w : Nat) : ∀ (cs : List (Bool × Nat)) (b : List Int × List Int), (cs.foldl (eqs l w) b).1.length ≤ b.1.length + cs.length ∧ (cs.foldl (eqs l w) b).2.length ≤ b.2.length + cs.length
  | [], _ => ⟨Nat.le_refl _, Nat.le_refl _⟩
  | c :: cs, b => by
    have a := eqs_fold_len l w cs (eqs l w b c)
    have e := eqs_len l w b c
    rw [List.foldl_cons, List.length_cons]
    omega
section
variable {l : List ByteArray} {w : Nat}
theorem equal_l1 (h : Nuts l w) : ∀ (d i : Nat) (b : List Int × List Int), 1 ≤ i → i + d = l.length → b.1.length + d ≤ 1000 → b.2.length + d ≤ 1000 → Ev (fun k => spec_EqualBreaks.l1 k l b.1 b.2 (i : Int)) (((cutsOf false i d).foldl (eqs l w) b).1, ((cutsOf false i d).foldl (eqs l w) b).2, true) := by
  have h8 := h.rows8
  intro d
  induction d with
  | zero =>
    intro i b hi1 hi hb1 hb2
    refine Ev.step (f := fun _ => some (b.1, b.2, true)) (fun k => ?_) (Ev.now _)
    simp only [spec_EqualBreaks.l1]
    rw [if_neg (by omega)]
  | succ d ih =>
    intro i b hi1 hi hb1 hb2
    have e3 : wrap64 ((i : Int) + 1) = ((i + 1 : Nat) : Int) := by rw [w64 (by omega) (by omega)]; omega
    have hlt : (i : Int) < (l.length : Int) := by clear e3; omega
    have s := ntBreak_ev h false i hi1 (by rw [if_neg (by decide)]; clear e3; omega)
    have hc : (cutsOf false i (d + 1)).foldl (eqs l w) b = (cutsOf false (i + 1) d).foldl (eqs l w) (eqs l w b (false, i)) := rfl
    rw [hc]
    have hq : eqs l w b (false, i) = if brk l w false i = 0 then (b.1, b.2 ++ [(i : Int)]) else b := rfl
    rw [hq]
    refine Ev.step (fun k => by simp only [spec_EqualBreaks.l1, e3]; rw [if_pos hlt]) (Ev.bind s ?_)
    by_cases c : brk l w false i = 0
    · rw [if_pos c]
      exact ev_if_pos c (ev_if_pos (by clear e3; omega) (ih (i + 1) (b.1, b.2 ++ [(i : Int)]) (by omega) (by clear e3; omega) (by show b.1.length + d ≤ 1000; clear e3; omega) (by clear e3; rw [List.length_append, List.length_singleton]; omega)))
    · rw [if_neg c]
      exact ev_if_neg c (ih (i + 1) b (by omega) (by clear e3; omega) (by clear e3; omega) (by clear e3; omega))
theorem equal_l0 (h : Nuts l w) (r : List Int × List Int × Bool) : ∀ (d i : Nat) (b : List Int), 1 ≤ i → i + d = w → b.length + d ≤ 1000 →
    Ev (fun k => spec_EqualBreaks.l1 k l ((cutsOf true i d).foldl (eqs l w) (b, [])).1 ((cutsOf true i d).foldl (eqs l w) (b, [])).2 1) r →
    Ev (fun k => spec_EqualBreaks.l0 k l b (i : Int)) r := by
  have w8 := h.wide8
  have h1 := h.rows1
  have h0 : ((rdOf ByteArray.empty l 0).size : Int) = (w : Int) := by
    have := (h.row 0 (by omega)).1
    simp only [Int.natCast_zero] at this
    omega
  have hp : 0 < (l.length : Int) := by omega
  intro d
  induction d with
  | zero =>
    intro i b hi1 hi hb nx
    refine Ev.step (fun k => ?_) nx
    simp only [spec_EqualBreaks.l0, h0]
    rw [if_pos hp, if_neg (by omega)]
    rfl
  | succ d ih =>
    intro i b hi1 hi hb nx
    have e3 : wrap64 ((i : Int) + 1) = ((i + 1 : Nat) : Int) := by rw [w64 (by omega) (by omega)]; omega
    have hlt : (i : Int) < (w : Int) := by clear e3; omega
    have s := ntBreak_ev h true i hi1 (by rw [if_pos rfl]; clear e3; omega)
    have hc : (cutsOf true i (d + 1)).foldl (eqs l w) (b, []) = (cutsOf true (i + 1) d).foldl (eqs l w) (eqs l w (b, []) (true, i)) := rfl
    have hq : eqs l w (b, []) (true, i) = if brk l w true i = 0 then (b ++ [(i : Int)], []) else (b, []) := rfl
    rw [hc, hq] at nx
    refine Ev.step (fun k => by simp only [spec_EqualBreaks.l0, h0, e3]; rw [if_pos hp, if_pos hlt]) (Ev.bind s ?_)
    by_cases c : brk l w true i = 0
    · rw [if_pos c] at nx
      exact ev_if_pos c (ev_if_pos (by clear e3; omega) (ih (i + 1) (b ++ [(i : Int)]) (by omega) (by clear e3; omega) (by clear e3; rw [List.length_append, List.length_singleton]; omega) nx))
    · rw [if_neg c] at nx
      exact ev_if_neg c (ih (i + 1) b (by omega) (by clear e3; omega) (by clear e3; omega) nx)
theorem equal_impl (h : Nuts l w) (cs : List (Bool × Nat)) (hc : ∀ c ∈ cs, 1 ≤ c.2 ∧ c.2 < (if c.1 then w else l.length)) (hlen : cs.length ≤ 1000) : ∀ (d i : Nat) (b : List Int × List Int), i + d = cs.length → b.1.length + d ≤ 1000 → b.2.length + d ≤ 1000 →
    Ev (fun k => impl_EqualBreaks.l0 k l b.1 b.2 (cs.map mkC) ((cs.map mkC).length : Int) (i : Int)) (((cs.drop i).foldl (eqs l w) b).1, ((cs.drop i).foldl (eqs l w) b).2, true) := by
  have hml : (cs.map mkC).length = cs.length := List.length_map _
  intro d
  induction d with
  | zero =>
    intro i b hi hb1 hb2
    rw [List.drop_of_length_le (by omega)]
    refine Ev.step (f := fun _ => some (b.1, b.2, true)) (fun k => ?_) (Ev.now _)
    simp only [impl_EqualBreaks.l0]
    rw [if_neg (by omega)]
  | succ d ih =>
    intro i b hi hb1 hb2
    have hlt : i < cs.length := by omega
    have hr := rd_mkC cs i hlt
    obtain ⟨f1, f2⟩ := hc cs[i] (List.getElem_mem hlt)
    have s := apart_ev h cs[i].1 cs[i].2 f1 f2
    have e3 : wrap64 ((i : Int) + 1) = ((i + 1 : Nat) : Int) := by rw [w64 (by omega) (by omega)]; omega
    rw [List.drop_eq_getElem_cons hlt, List.foldl_cons]
    have c1 : (i : Int) < ((cs.map mkC).length : Int) := by rw [hml]; clear e3; omega
    have c0 : 0 ≤ (i : Int) := by clear e3; omega
    have key : Ev (fun k => (impl_apart.f k l cs[i].1 (cs[i].2 : Int)).bind fun t => (if t = 0 then (if cs[i].1 = true then (if b.1.length < 17592186044416 then (impl_EqualBreaks.l0 k l (b.1 ++ [(cs[i].2 : Int)]) b.2 (cs.map mkC) ((cs.map mkC).length : Int) ((i + 1 : Nat) : Int)) else (none)) else (if b.2.length < 17592186044416 then (impl_EqualBreaks.l0 k l b.1 (b.2 ++ [(cs[i].2 : Int)]) (cs.map mkC) ((cs.map mkC).length : Int) ((i + 1 : Nat) : Int)) else (none))) else (impl_EqualBreaks.l0 k l b.1 b.2 (cs.map mkC) ((cs.map mkC).length : Int) ((i + 1 : Nat) : Int)))) (((cs.drop (i + 1)).foldl (eqs l w) (eqs l w b cs[i])).1, ((cs.drop (i + 1)).foldl (eqs l w) (eqs l w b cs[i])).2, true) := by
      refine Ev.bind s ?_
      unfold eqs
      by_cases c : brk l w cs[i].1 cs[i].2 = 0
      · rw [if_pos c]
        refine ev_if_pos c ?_
        by_cases c2 : cs[i].1 = true
        · rw [if_pos c2]
          exact ev_if_pos c2 (ev_if_pos (by clear e3; omega) (ih (i + 1) (b.1 ++ [(cs[i].2 : Int)], b.2) (by clear e3; omega) (by clear e3; rw [List.length_append, List.length_singleton]; omega) (by show b.2.length + d ≤ 1000; clear e3; omega)))
        · rw [if_neg c2]
          exact ev_if_neg c2 (ev_if_pos (by clear e3; omega) (ih (i + 1) (b.1, b.2 ++ [(cs[i].2 : Int)]) (by clear e3; omega) (by show b.1.length + d ≤ 1000; clear e3; omega) (by clear e3; rw [List.length_append, List.length_singleton]; omega)))
      · rw [if_neg c]
        exact ev_if_neg c (ih (i + 1) b (by clear e3; omega) (by clear e3; omega) (by clear e3; omega))
    refine Ev.step (fun k => ?_) key
    simp only [impl_EqualBreaks.l0, hr, e3]
    rw [if_pos c1, if_pos c0, if_pos c1]
    rfl
end
theorem equalBreaks_both (l : List ByteArray) (hl : l.length ≤ 1048576) (hz : sizes l ≤ 1048576) : ∃ r : List Int × List Int × Bool, r.1.length ≤ 1000 ∧ r.2.1.length ≤ 1000 ∧ Ev (fun k => spec_EqualBreaks.f k l) r ∧ Ev (fun k => impl_EqualBreaks.f k l) r := by
  obtain ⟨b, hg, hi, hb⟩ := good_both l hl hz
  cases b with
  | false =>
    refine ⟨([], [], false), by simp, by simp, ?_, ?_⟩
    · unfold spec_EqualBreaks.f
      exact Ev.bind hg (ev_if_neg (by decide) (Ev.now _))
    · unfold impl_EqualBreaks.f
      exact ev_val hi (ev_if_neg (by decide) (Ev.now _))
  | true =>
    obtain ⟨w, h⟩ := hb rfl
    have h1 := h.rows1
    have h8 := h.rows8
    have w1 := h.wide1
    have w8 := h.wide8
    have hlen := cuts_len w l.length
    have hcs := cuts_ev w l.length (by omega) (by omega) h1 w1
    have hrun := equal_impl h (cuts w l.length) (cuts_mem w l.length) (by omega) (cuts w l.length).length 0 ([], []) (by omega) (by rw [List.length_nil]; omega) (by rw [List.length_nil]; omega)
    rw [List.drop_zero] at hrun
    have fl := eqs_fold_len l w (cuts w l.length) ([], [])
    have fl2 := eqs_fold_len l w (cutsOf true 1 (w - 1)) ([], [])
    have cl := cutsOf_len true (w - 1) 1
    rw [List.length_nil] at fl fl2
    refine ⟨(((cuts w l.length).foldl (eqs l w) ([], [])).1, ((cuts w l.length).foldl (eqs l w) ([], [])).2, true), by show ((cuts w l.length).foldl (eqs l w) ([], [])).1.length ≤ _; omega, by show ((cuts w l.length).foldl (eqs l w) ([], [])).2.length ≤ _; omega, ?_, ?_⟩
    · have run := equal_l1 h (l.length - 1) 1 ((cutsOf true 1 (w - 1)).foldl (eqs l w) ([], [])) (Nat.le_refl _) (by omega) (by omega) (by omega)
      have run2 := equal_l0 h _ (w - 1) 1 [] (Nat.le_refl _) (by omega) (by rw [List.length_nil]; omega) run
      unfold spec_EqualBreaks.f
      refine Ev.bind hg (ev_if_pos rfl ?_)
      unfold cuts
      rw [List.foldl_append]
      exact run2
    · unfold impl_EqualBreaks.f
      refine ev_val hi (ev_if_pos rfl (ev_val (whole_some h) ?_))
      exact Ev.bind hcs hrun
theorem FnExactEqualBreaks (l0 : List ByteArray) (hm : l0.length ≤ maxLen) (_ : l0.length * 16 ≤ 140737488351232) (hs : (∀ s ∈ l0, s.size ≤ 140737488351232)) : ∃ k, laws_FnExactEqualBreaks.f k l0 = some true := by
  refine Ev.rounds (r := true) ?_
  unfold laws_FnExactEqualBreaks.f
  obtain ⟨t, ht, hz⟩ := sz_ev l0 hm hs
  refine Ev.bind ht ?_
  by_cases h0 : t < 0
  · simp only [if_pos h0]
    exact Ev.now _
  · simp only [if_neg h0]
    obtain ⟨hl, hz⟩ := hz (by omega)
    have hc := toStringS_ev l0 hl
    obtain ⟨r, hr1, hr2, hS, hI⟩ := equalBreaks_both l0 hl hz
    have he1 := eqIntS_refl r.1 (by omega)
    have he2 := eqIntS_refl r.2.1 (by omega)
    have m1 := markIntS_ev r.1 1 (by omega) (by omega)
    have m2 := markIntS_ev r.2.1 (1 + r.1.length) (by omega) (by omega)
    have k1 := heldIntS_ev r.1.length 1 (by omega) (by omega)
    have k2 := heldIntS_ev r.2.1.length (1 + r.1.length) (by omega) (by omega)
    obtain ⟨c2, l2, hc2, hmk2⟩ := markStringS_ev l0 (by omega)
    refine Ev.bind hc (Ev.bind hS (Ev.bind hc (Ev.bind hI (Ev.bind he1 (ev_if_pos rfl (Ev.bind he2 (ev_if_pos rfl ?_)))))))
    simp only [bne_self_eq_false]
    refine Ev.step (fun k => by simp only [laws_FnExactEqualBreaks.j0, Bool.false_eq_true, if_false]; rfl) ?_
    refine Ev.bind hc (Ev.bind (eqStringS_refl l0 (by omega)) (ev_if_pos rfl (Ev.bind hmk2 (ev_if_neg (by omega) (Ev.bind he1 (ev_if_pos rfl (Ev.bind he2 (ev_if_pos rfl ?_))))))))
    simp only [bne_self_eq_false]
    refine Ev.step (fun k => by simp only [laws_FnExactEqualBreaks.j1, Bool.false_eq_true, if_false]; rfl) ?_
    refine Ev.bind m1 (Ev.bind m2 (Ev.bind k1 (ev_if_neg (by omega) (Ev.bind k2 (ev_if_neg (by omega) (ev_if_pos rfl ?_))))))
    refine Ev.bind hc (Ev.bind hI (Ev.bind he1 (ev_if_pos rfl (Ev.bind he2 (ev_if_pos rfl ?_)))))
    simp only [bne_self_eq_false]
    refine Ev.step (fun k => by simp only [laws_FnExactEqualBreaks.j2, Bool.false_eq_true, if_false]; rfl) ?_
    exact Ev.bind k1 (ev_if_neg (by omega) (Ev.bind k2 (ev_if_neg (by omega) (ev_if_pos rfl (Ev.now _)))))
end Go.Proofs.YtedpdfmaccoinaaDoor.Pure
