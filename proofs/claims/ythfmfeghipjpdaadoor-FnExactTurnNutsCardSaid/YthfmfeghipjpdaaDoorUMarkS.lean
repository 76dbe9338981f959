/- Lists of texts: marked, and held as marked. Condition: a list shorter than any machine's memory. -/
import Derived.Test.YthfmfeghipjpdaaDoorUStrs
import Derived.Test.YthfmfeghipjpdaaDoorPx31
namespace Go.Proofs.YthfmfeghipjpdaaDoor.Pure
open Go.RowKit Go.Proofs.YthfmfeghipjpdaaDoor.P Go.Proofs.YthfmfeghipjpdaaDoorW.PrintWords Go.Proofs.YthfmfeghipjpdaaDoorW.PrintLast
theorem strOfNums_one (n : Int) : (strOfNums [n]).size = 1 := by
  simp [strOfNums, ByteArray.size]
theorem markText_l0 : ∀ (d : Nat) (n : Nat) (t : ByteArray), n ≤ d → n ≤ 4000000000000 → t.size + d ≤ 9000000000000000000 → ∃ s, Ev (fun k => laws_markText.l0 k (n : Int) t) s := by
  intro d
  induction d with
  | zero =>
    intro n t hn h4 ht
    refine ⟨(⟨#[109]⟩ : ByteArray) ++ t, Ev.step (f := fun _ => some ((⟨#[109]⟩ : ByteArray) ++ t)) (fun k => ?_) (Ev.now _)⟩
    simp only [laws_markText.l0]
    rw [if_neg (by omega), if_pos (by omega)]
  | succ d ih =>
    intro n t hn h4 ht
    by_cases h0 : n = 0
    · subst h0
      refine ⟨(⟨#[109]⟩ : ByteArray) ++ t, Ev.step (f := fun _ => some ((⟨#[109]⟩ : ByteArray) ++ t)) (fun k => ?_) (Ev.now _)⟩
      simp only [laws_markText.l0]
      rw [if_neg (by omega), if_pos (by omega)]
    · have hq : Int.tdiv (n : Int) 10 = ((n / 10 : Nat) : Int) := by rw [Int.tdiv_eq_ediv_of_nonneg (by omega)]; omega
      generalize hc : strOfNums [(wrap64 (48 + (Int.tmod (n : Int) 10))) % 256] = c
      have hc1 : c.size = 1 := by rw [← hc]; exact strOfNums_one _
      obtain ⟨s, hs⟩ := ih (n / 10) (c ++ t) (by omega) (by omega) (by rw [ByteArray.size_append]; omega)
      refine ⟨s, Ev.step (fun k => ?_) hs⟩
      simp only [laws_markText.l0, Option.bind_some, hc]
      rw [if_pos (by omega), if_pos (by omega), hq, w64 (by omega) (by omega)]
theorem markText_ev (n : Nat) (h : n ≤ 4000000000000) : ∃ s, Ev (fun k => laws_markText.f k (n : Int)) s := by
  unfold laws_markText.f
  by_cases h0 : (n : Int) ≤ 0
  · exact ⟨_, ev_if_pos h0 (Ev.now _)⟩
  · obtain ⟨s, hs⟩ := markText_l0 n n ⟨#[]⟩ (Nat.le_refl _) h (by simp [ByteArray.size]; omega)
    exact ⟨s, ev_if_neg h0 hs⟩
noncomputable def markT (n : Nat) : ByteArray := if h : n ≤ 4000000000000 then Classical.choose (markText_ev n h) else ByteArray.empty
theorem markT_ev (n : Nat) (h : n ≤ 4000000000000) : Ev (fun k => laws_markText.f k (n : Int)) (markT n) := by
  unfold markT
  rw [dif_pos h]
  exact Classical.choose_spec (markText_ev n h)
theorem markStringS_l0 : ∀ (d i : Nat) (l : List ByteArray) (c : Nat), l.length = i + d → l.length ≤ 1000000000000 → c + d ≤ 4000000000000 →
    Ev (fun k => laws_markStringS.l0 k l (c : Int) (i : Int)) (((c + d : Nat) : Int), l.take i ++ (List.range d).map (fun j => markT (c + j))) := by
  intro d
  induction d with
  | zero =>
    intro i l c hl hn hc
    refine Ev.step (f := fun _ => some (((c + 0 : Nat) : Int), l.take i ++ (List.range 0).map (fun j => markT (c + j)))) (fun k => ?_) (Ev.now _)
    simp only [laws_markStringS.l0]
    rw [if_neg (by omega), List.take_of_length_le (by omega)]
    simp
  | succ d ih =>
    intro i l c hl hn hc
    have next := ih (i + 1) (l.set i (markT c)) (c + 1) (by rw [List.length_set]; omega) (by rw [List.length_set]; omega) (by omega)
    rw [show c + 1 + d = c + (d + 1) by omega] at next
    have e : (l.set i (markT c)).take (i + 1) ++ (List.range d).map (fun j => markT (c + 1 + j)) = l.take i ++ (List.range (d + 1)).map (fun j => markT (c + j)) := by
      rw [List.take_succ_eq_append_getElem (by rw [List.length_set]; omega), List.getElem_set_self, List.take_set_of_le (by omega), List.append_assoc, List.range_succ_eq_map, List.map_cons, List.map_map]
      congr 1
      rw [List.singleton_append]
      congr 1
      refine List.map_congr_left fun j _ => ?_
      simp only [Function.comp]
      rw [show c + 1 + j = c + (j + 1) by omega]
    rw [e] at next
    have f1 : (i : Int) < (l.length : Int) := by omega
    have f2 : c ≤ 4000000000000 := by omega
    have f3 : 0 ≤ (i : Int) := by omega
    have e1 : wrap64 ((c : Int) + 1) = ((c + 1 : Nat) : Int) := by rw [w64 (by omega) (by omega)]; rfl
    have e2 : wrap64 ((i : Int) + 1) = ((i + 1 : Nat) : Int) := by rw [w64 (by omega) (by omega)]; rfl
    refine Ev.step (fun k => by simp only [laws_markStringS.l0, Int.toNat_natCast, e1, e2]; rfl) (ev_if_pos f1 (Ev.bind (markT_ev c f2) (ev_if_pos f3 next)))
theorem markStringS_ev (l : List ByteArray) (hn : l.length ≤ 1000000000000) : ∃ (c : Int) (l' : List ByteArray), 0 ≤ c ∧ Ev (fun k => laws_markStringS.f k l 1) (c, l') := by
  have s := markStringS_l0 l.length 0 l 1 (by omega) hn (by omega)
  exact ⟨_, _, by omega, s⟩
end Go.Proofs.YthfmfeghipjpdaaDoor.Pure
