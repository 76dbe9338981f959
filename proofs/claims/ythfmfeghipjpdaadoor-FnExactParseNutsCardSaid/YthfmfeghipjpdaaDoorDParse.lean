/- A text cut at each slash: the reference's loop over the signs is the shelf's cutting; the pieces' sizes. -/
import Derived.Test.YthfmfeghipjpdaaDoorDNuts
import Derived.Test.YthfmfeghipjpdaaDoorOParseN
import Derived.Test.YthfmfeghipjpdaaDoorPx68
import Derived.Lib.SplitLaws
import Derived.Lib.IndexMore
namespace Go.Proofs.YthfmfeghipjpdaaDoor.Pure
open Go.RowKit Go.Proofs.YthfmfeghipjpdaaDoor.P Go.Proofs.YthfmfeghipjpdaaDoorW.PrintWords Go.Proofs.YthfmfeghipjpdaaDoorW.PrintLast
theorem same_bytes {a b : ByteArray} (h : a.data.toList = b.data.toList) : a = b := by
  cases a with | mk a =>
  cases b with | mk b =>
  congr 1
  exact Array.ext' h
theorem slash_at (L : List UInt8) (j : Nat) (h : j < L.length) : Lib.occAt L [47] j = (L[j] == 47) := by
  unfold Lib.occAt
  rw [List.drop_eq_getElem_cons h]
  simp only [List.isPrefixOf, Bool.and_true]
  by_cases e : L[j] = 47
  · rw [e]
  · rw [beq_eq_false_iff_ne.2 e, beq_eq_false_iff_ne.2 (fun he => e he.symm)]
theorem slash_end (L : List UInt8) : Lib.occAt L [47] L.length = false := by
  unfold Lib.occAt
  rw [List.drop_length]
  rfl
theorem tail_data (s : ByteArray) (a : Nat) : (s.extract a s.size).data.toList = s.data.toList.drop a := Lib.extract_to_end s a
/-- The two ways that a cutting goes. -/
theorem cut_cases (t : ByteArray) : (Lib.indexB t slashB = -1 ∧ ∀ (j : Nat) (h : j < t.data.toList.length), t.data.toList[j] ≠ 47) ∨ ∃ i : Nat, Lib.indexB t slashB = i ∧ ∃ h : i < t.data.toList.length, t.data.toList[i] = 47 ∧ ∀ (j : Nat) (h : j < t.data.toList.length), j < i → t.data.toList[j] ≠ 47 := by
  rcases Lib.index_spec t.data.toList [47] with ⟨h1, h2⟩ | ⟨i, h1, h2, h3, h4⟩
  · refine .inl ⟨h1, fun j hj he => ?_⟩
    have := h2 j (by omega)
    rw [slash_at _ _ hj, he] at this
    exact absurd this (by decide)
  · have hlt : i < t.data.toList.length := by
      rcases Nat.lt_or_ge i t.data.toList.length with h | h
      · exact h
      · have e : i = t.data.toList.length := by omega
        subst e
        rw [slash_end] at h3
        cases h3
    refine .inr ⟨i, h1, hlt, ?_, fun j hj hji he => ?_⟩
    · rw [slash_at _ _ hlt] at h3
      exact beq_iff_eq.1 h3
    · have := h4 j hji
      rw [slash_at _ _ hj, he] at this
      exact absurd this (by decide)
theorem pieces_miss {t : ByteArray} (h : Lib.indexB t slashB = -1) : pieces t = [t] := by
  unfold pieces
  exact Lib.splitB_miss slashB 0 _ t h
theorem pieces_hit {t : ByteArray} {i : Nat} (h : Lib.indexB t slashB = i) : pieces t = t.extract 0 i :: pieces (t.extract (i + 1) t.size) := by
  have hc := Lib.countB_hit t slashB i (by decide) h
  have hp := Lib.splitB_hit slashB 0 (Lib.countB (t.extract (i + 1) t.size) slashB) t i h
  have e : Lib.countB t slashB = Lib.countB (t.extract (i + 1) t.size) slashB + 1 := by rw [hc]; exact Nat.add_comm _ _
  unfold pieces
  rw [e, hp]
  rfl
theorem scan (s : ByteArray) (hs : s.size ≤ 1000) (o : List ByteArray) (st : Nat) (r : List ByteArray) : ∀ (d i : Nat), i + d ≤ s.size → (∀ (j : Nat) (h : j < s.data.toList.length), i ≤ j → j < i + d → s.data.toList[j] ≠ 47) → Ev (fun k => spec_l1Split.l0 k s 47 o (st : Int) ((i + d : Nat) : Int)) r → Ev (fun k => spec_l1Split.l0 k s 47 o (st : Int) (i : Int)) r := by
  intro d
  induction d with
  | zero => intro i _ _ h; exact h
  | succ d ih =>
    intro i hi hj h
    have hl : s.size = s.data.toList.length := Lib.size_eq s
    have hn : ¬ bt s (i : Int) = 47 := by
      rw [bt_lt s i (by omega)]
      intro he
      have h47 : (s.data.toList[i]'(by omega)).toNat = 47 := by omega
      exact hj i (by omega) (Nat.le_refl _) (by omega) (UInt8.toNat_inj.1 h47)
    have next := ih (i + 1) (by omega) (fun j h h1 h2 => hj j h (by omega) (by omega)) (by rw [show i + 1 + d = i + (d + 1) by omega]; exact h)
    refine Ev.step (fun k => by simp only [spec_l1Split.l0]; rfl) (ev_if_pos (by omega) (ev_if_pos (by omega) (ev_if_neg hn ?_)))
    rw [show wrap64 ((i : Int) + 1) = ((i + 1 : Nat) : Int) by rw [w64 (by omega) (by omega)]; rfl]
    exact next
theorem split_l0 (s : ByteArray) (hs : s.size ≤ 1000) : ∀ (n st : Nat) (o : List ByteArray), s.size ≤ st + n → st ≤ s.size → o.length ≤ st →
    Ev (fun k => spec_l1Split.l0 k s 47 o (st : Int) (st : Int)) (o ++ pieces (s.extract st s.size)) := by
  intro n
  induction n with
  | zero =>
    intro st o hn hst ho
    have hl : s.size = s.data.toList.length := Lib.size_eq s
    have td := tail_data s st
    rcases cut_cases (s.extract st s.size) with ⟨h1, h2⟩ | ⟨i, h1, h2, _⟩
    · rw [pieces_miss h1]
      refine Ev.step (f := fun _ => some (o ++ [s.extract st s.size])) (fun k => ?_) (Ev.now _)
      simp only [spec_l1Split.l0]
      rw [if_neg (by omega), if_pos (by omega), if_pos (by omega), if_pos (by omega), Int.toNat_natCast]
    · rw [td, List.length_drop] at h2
      omega
  | succ n ih =>
    intro st o hn hst ho
    have hl : s.size = s.data.toList.length := Lib.size_eq s
    have td := tail_data s st
    rcases cut_cases (s.extract st s.size) with ⟨h1, h2⟩ | ⟨i, h1, h2, h3, h4⟩
    · rw [pieces_miss h1]
      refine scan s hs o st _ (s.size - st) st (by omega) (fun j hj ha hb he => ?_) ?_
      · have hj2 : j - st < (s.extract st s.size).data.toList.length := by rw [td, List.length_drop]; omega
        refine h2 (j - st) hj2 ?_
        have : (s.extract st s.size).data.toList[j - st]? = s.data.toList[j]? := by rw [td, List.getElem?_drop, show st + (j - st) = j by omega]
        rw [List.getElem?_eq_getElem hj2, List.getElem?_eq_getElem hj] at this
        rw [Option.some.inj this]
        exact he
      · rw [show st + (s.size - st) = s.size by omega]
        refine Ev.step (f := fun _ => some (o ++ [s.extract st s.size])) (fun k => ?_) (Ev.now _)
        simp only [spec_l1Split.l0]
        rw [if_neg (by omega), if_pos (by omega), if_pos (by omega), if_pos (by omega), Int.toNat_natCast]
    · have hi2 := h2
      rw [td, List.length_drop] at hi2
      have hlt : st + i < s.data.toList.length := by omega
      have get : ∀ j, (s.extract st s.size).data.toList[j]? = s.data.toList[st + j]? := fun j => by rw [td, List.getElem?_drop]
      rw [pieces_hit h1]
      refine scan s hs o st _ i st (by omega) (fun j hj ha hb he => ?_) ?_
      · have hj2 : j - st < (s.extract st s.size).data.toList.length := by rw [td, List.length_drop]; omega
        refine h4 (j - st) hj2 (by omega) ?_
        have := get (j - st)
        rw [show st + (j - st) = j by omega, List.getElem?_eq_getElem hj2, List.getElem?_eq_getElem hj] at this
        rw [Option.some.inj this]
        exact he
      · have h47 : bt s ((st + i : Nat) : Int) = 47 := by
          rw [bt_lt s (st + i) (by omega)]
          have := get i
          rw [List.getElem?_eq_getElem h2, List.getElem?_eq_getElem hlt, h3] at this
          rw [← Option.some.inj this]
          rfl
        have next := ih (st + i + 1) (o ++ [s.extract st (st + i)]) (by omega) (by omega) (by simp; omega)
        have e1 : (s.extract st s.size).extract 0 i = s.extract st (st + i) := same_bytes (by
          rw [Lib.extract_data, td, Lib.extract_data]
          simp)
        have e2 : (s.extract st s.size).extract (i + 1) (s.extract st s.size).size = s.extract (st + i + 1) s.size := same_bytes (by
          rw [tail_data, td, tail_data, List.drop_drop, show st + (i + 1) = st + i + 1 by omega])
        rw [e1, e2]
        rw [List.append_assoc, List.singleton_append] at next
        refine Ev.step (fun k => by simp only [spec_l1Split.l0]; rfl) (ev_if_pos (by omega) (ev_if_pos (by omega) (ev_if_pos h47 (ev_if_pos (by omega) (ev_if_pos (by omega) (ev_if_pos (by omega) (ev_if_pos (by omega) ?_)))))))
        rw [show wrap64 (((st + i : Nat) : Int) + 1) = ((st + i + 1 : Nat) : Int) by rw [w64 (by omega) (by omega)]; rfl, Int.toNat_natCast, Int.toNat_natCast]
        exact next
theorem split_ev (s : ByteArray) (hs : s.size ≤ 1000) : Ev (fun k => spec_l1Split.f k s 47) (pieces s) := by
  have := split_l0 s hs s.size 0 [] (by omega) (by omega) (by simp)
  rw [List.nil_append] at this
  have e : s.extract 0 s.size = s := same_bytes (by rw [tail_data, List.drop_zero])
  rw [e] at this
  exact this
/-- What the pieces' sizes come to. -/
theorem pieces_sizes : ∀ (n : Nat) (s : ByteArray), s.size ≤ n → sizes (pieces s) + (pieces s).length = s.size + 1 := by
  intro n
  induction n with
  | zero =>
    intro s hn
    rcases cut_cases s with ⟨h1, _⟩ | ⟨i, h1, h2, _⟩
    · rw [pieces_miss h1]
      simp [sizes]
    · rw [← Lib.size_eq] at h2
      omega
  | succ n ih =>
    intro s hn
    rcases cut_cases s with ⟨h1, _⟩ | ⟨i, h1, h2, _⟩
    · rw [pieces_miss h1]
      simp [sizes]
    · rw [← Lib.size_eq] at h2
      have hs : (s.extract (i + 1) s.size).size = s.size - (i + 1) := by rw [ByteArray.size_extract]; omega
      have h0 : (s.extract 0 i).size = i := by rw [ByteArray.size_extract]; omega
      have := ih (s.extract (i + 1) s.size) (by omega)
      rw [pieces_hit h1]
      unfold sizes at this ⊢
      rw [List.map_cons, List.sum_cons, List.length_cons, h0]
      omega
theorem sizes_le : ∀ (l : List ByteArray), (∀ s ∈ l, s.size ≤ 8) → sizes l ≤ 8 * l.length
  | [], _ => by simp [sizes]
  | x :: l, h => by
    have a := h x List.mem_cons_self
    have b := sizes_le l (fun s hs => h s (List.mem_cons_of_mem _ hs))
    unfold sizes at b ⊢
    rw [List.map_cons, List.sum_cons, List.length_cons]
    omega
end Go.Proofs.YthfmfeghipjpdaaDoor.Pure
