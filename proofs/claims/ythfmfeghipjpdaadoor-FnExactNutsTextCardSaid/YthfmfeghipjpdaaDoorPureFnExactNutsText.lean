/- NutsText of the program answers as the reference's, for all lists of texts; its argument is not held. -/
import Derived.Test.YthfmfeghipjpdaaDoorDNuts
import Derived.Test.YthfmfeghipjpdaaDoorUMarkS
import Derived.Test.YthfmfeghipjpdaaDoorPx68
namespace Go.Proofs.YthfmfeghipjpdaaDoor.Pure
open Go.RowKit Go.Proofs.YthfmfeghipjpdaaDoor.P Go.Proofs.YthfmfeghipjpdaaDoorW.PrintWords Go.Proofs.YthfmfeghipjpdaaDoorW.PrintLast
theorem bytes_ext {a b : ByteArray} (h : a.data.toList = b.data.toList) : a = b := by
  cases a with | mk a =>
  cases b with | mk b =>
  congr 1
  exact Array.ext' h
theorem bytes_app (a b : ByteArray) : (a ++ b).data.toList = a.data.toList ++ b.data.toList := by
  rw [ByteArray.data_append, Array.toList_append]
theorem text_l0 {l : List ByteArray} {w : Nat} (h : Nuts l w) : ∀ (d j : Nat) (acc : ByteArray), 1 ≤ j → j + d = l.length → acc.size ≤ 9 * j →
    Ev (fun k => spec_ntText.l0 k acc l (l.length : Int) (j : Int)) ⟨(acc.data.toList ++ Lib.joinTail [47] ((l.drop j).map (·.data.toList))).toArray⟩ := by
  have hl8 := h.rows8
  have w8 := h.wide8
  intro d
  induction d with
  | zero =>
    intro j acc h1 hj ha
    refine Ev.step (f := fun _ => some acc) (fun k => by simp only [spec_ntText.l0]; rw [if_neg (by omega)]) ?_
    have e : acc = ⟨(acc.data.toList ++ Lib.joinTail [47] ((l.drop j).map (·.data.toList))).toArray⟩ := by
      rw [List.drop_of_length_le (by omega)]
      exact bytes_ext (by simp [Lib.joinTail])
    rw [← e]
    exact Ev.now _
  | succ d ih =>
    intro j acc h1 hj ha
    have hlt : j < l.length := by omega
    have hw : (rdOf ByteArray.empty l (j : Int)).size = w := by rw [rs_lt l j hlt]; exact h.wide _ (List.getElem_mem hlt)
    have s1 : (⟨#[47]⟩ : ByteArray).size = 1 := rfl
    have next := ih (j + 1) ((acc ++ (⟨#[47]⟩ : ByteArray)) ++ (rdOf ByteArray.empty l (j : Int))) (by omega) (by omega) (by rw [ByteArray.size_append, ByteArray.size_append, hw, s1]; omega)
    have e : (((acc ++ (⟨#[47]⟩ : ByteArray)) ++ (rdOf ByteArray.empty l (j : Int))).data.toList ++ Lib.joinTail [47] ((l.drop (j + 1)).map (·.data.toList))) = acc.data.toList ++ Lib.joinTail [47] ((l.drop j).map (·.data.toList)) := by
      rw [bytes_app, bytes_app, rs_lt l j hlt, List.drop_eq_getElem_cons hlt, List.map_cons, Lib.joinTail, Lib.joinTail, List.map_cons, List.flatten_cons]
      simp only [List.append_assoc]
    rw [e] at next
    have f1 : (acc ++ (⟨#[47]⟩ : ByteArray)).size + (rdOf ByteArray.empty l (j : Int)).size ≤ 9223372036854775807 := by rw [ByteArray.size_append, hw, s1]; omega
    refine Ev.step (fun k => by simp only [spec_ntText.l0]; rfl) (ev_if_pos (by omega) (ev_if_pos (by omega) (ev_if_pos (by omega) (ev_if_pos (by omega) (ev_if_pos (by omega) (ev_if_pos f1 ?_))))))
    rw [show wrap64 ((j : Int) + 1) = ((j + 1 : Nat) : Int) by rw [w64 (by omega) (by omega)]; rfl]
    exact next
theorem join_len {l : List ByteArray} {w : Nat} (h : Nuts l w) : (Lib.join (l.map (·.data.toList)) [47]).length ≤ 100 := by
  have hl8 := h.rows8
  have w8 := h.wide8
  have key : ∀ r : List ByteArray, (∀ s ∈ r, s.size = w) → (Lib.joinTail [47] (r.map (·.data.toList))).length = (w + 1) * r.length := by
    intro r
    induction r with
    | nil => intro _; rfl
    | cons x r ih =>
      intro hr
      have hx : x.data.toList.length = w := hr x List.mem_cons_self
      have := ih (fun s hs => hr s (List.mem_cons_of_mem _ hs))
      simp only [Lib.joinTail, List.map_cons, List.flatten_cons, List.length_append] at this ⊢
      rw [this, hx, @List.length_cons _ x r, Nat.mul_add (w + 1) r.length 1]
      simp
      omega
  match l, h with
  | [], h => have := h.rows1; simp at this
  | x :: r, h =>
    have hx : x.data.toList.length = w := h.wide x List.mem_cons_self
    have hk := key r (fun s hs => h.wide s (List.mem_cons_of_mem _ hs))
    have hr : r.length ≤ 7 := by have := h.rows8; simp at this; omega
    rw [List.map_cons, Lib.join_cons, List.length_append, hk, hx]
    have : (w + 1) * r.length ≤ 9 * 7 := Nat.mul_le_mul (by omega) hr
    omega
theorem ntText_ev {l : List ByteArray} {w : Nat} (h : Nuts l w) : Ev (fun k => spec_ntText.f k l) (joinB l (⟨#[47]⟩ : ByteArray)) := by
  have hl8 := h.rows8
  have w8 := h.wide8
  match l, h with
  | [], h => have := h.rows1; simp at this
  | x :: r, h =>
    have hr := h.rows8
    have hx : x.size = w := h.wide x List.mem_cons_self
    have e0 : rdOf ByteArray.empty (x :: r) (0 : Int) = x := rfl
    have s := text_l0 h r.length 1 ((⟨#[]⟩ : ByteArray) ++ x) (Nat.le_refl _) (by simp; omega) (by rw [ByteArray.size_append, hx]; show 0 + w ≤ _; omega)
    unfold spec_ntText.f
    refine Ev.step (fun k => by simp only [spec_ntText.l0, e0]; rfl) ?_
    have hp : (0 : Int) < ((x :: r).length : Int) := by rw [List.length_cons]; omega
    refine ev_if_pos hp (ev_if_pos (by omega) (ev_if_pos hp (ev_if_neg (by omega) (ev_if_pos ?_ ?_))))
    · show 0 + x.size ≤ _
      omega
    · rw [show wrap64 ((0 : Int) + 1) = ((1 : Nat) : Int) by rw [w64 (by omega) (by omega)]; rfl]
      have e : joinB (x :: r) (⟨#[47]⟩ : ByteArray) = ⟨(((⟨#[]⟩ : ByteArray) ++ x).data.toList ++ Lib.joinTail [47] (((x :: r).drop 1).map (·.data.toList))).toArray⟩ := by
        unfold joinB
        rw [List.map_cons, Lib.join_cons, bytes_app]
        rfl
      rw [e]
      exact s
theorem nutsText_both (l : List ByteArray) (hl : l.length ≤ 1048576) (hz : sizes l ≤ 1048576) : ∃ r : ByteArray × Bool, Ev (fun k => spec_NutsText.f k l) r ∧ impl_NutsText.f l = some r := by
  obtain ⟨b, hg, hi, hb⟩ := good_both l hl hz
  unfold impl_NutsText.f
  rw [hi, Option.bind_some]
  cases b with
  | false =>
    refine ⟨(⟨#[]⟩, false), ?_, rfl⟩
    unfold spec_NutsText.f
    exact Ev.bind hg (ev_if_neg (by decide) (Ev.now _))
  | true =>
    obtain ⟨w, h⟩ := hb rfl
    refine ⟨(joinB l ⟨#[47]⟩, true), ?_, ?_⟩
    · unfold spec_NutsText.f
      exact Ev.bind hg (ev_if_pos rfl (Ev.bind (ntText_ev h) (Ev.now _)))
    · rw [if_pos rfl]
      unfold strings_Join.f
      have h1 := join_len h
      have h2 := h.rows8
      rw [if_pos ⟨by show (Lib.join (l.map (·.data.toList)) [47]).length ≤ _; omega, by omega⟩]
      rfl
theorem FnExactNutsText (l0 : List ByteArray) (hm : l0.length ≤ maxLen) (_ : l0.length * 16 ≤ 140737488351232) (hs : (∀ s ∈ l0, s.size ≤ 140737488351232)) : ∃ k, laws_FnExactNutsText.f k l0 = some true := by
  refine Ev.rounds (r := true) ?_
  unfold laws_FnExactNutsText.f
  obtain ⟨t, ht, hz⟩ := sz_ev l0 hm hs
  refine Ev.bind ht ?_
  by_cases h0 : t < 0
  · simp only [if_pos h0]
    exact Ev.now _
  · simp only [if_neg h0]
    obtain ⟨hl, hz⟩ := hz (by omega)
    have hc := toStringS_ev l0 hl
    obtain ⟨r, hS, hI⟩ := nutsText_both l0 hl hz
    refine Ev.bind hc (Ev.bind hS (Ev.bind hc (ev_val hI ?_)))
    simp only [if_true, bne_self_eq_false]
    refine Ev.step (fun k => by simp only [laws_FnExactNutsText.j0, Bool.false_eq_true, if_false]; rfl) ?_
    refine Ev.bind hc (Ev.bind (eqStringS_refl l0 (by omega)) ?_)
    simp only [if_true]
    exact Ev.now _
end Go.Proofs.YthfmfeghipjpdaaDoor.Pure
