/- ParseChomp of the program answers as the reference's, for all texts; what it hands back is memory of its own. -/
import Derived.Test.YtfppdfphbphhhaaUIntEq
import Derived.Test.YtfppdfphbphhhaaUMarks
import Derived.Test.YtfppdfphbphhhaaCChomp
import Derived.Test.YtfppdfphbphhhaaPx24
import Derived.Test.YtfppdfphbphhhaaPx21
import Derived.Test.YtfppdfphbphhhaaOParse
namespace Go.Proofs.Ytfppdfphbphhhaa.Pure
open Go.RowKit Go.Proofs.Ytfppdfphbphhhaa.P Go.Proofs.YtfppdfphbphhhaaW.PrintWords Go.Proofs.YtfppdfphbphhhaaW.PrintLast
def ps (s : ByteArray) : Nat → Nat → List Int
  | _, 0 => []
  | i, d + 1 => wrap64 ((wrap64 (bt s (i : Int))) - 48) :: ps s (i + 1) d
theorem ps_len (s : ByteArray) : ∀ d i, (ps s i d).length = d
  | 0, _ => rfl
  | d + 1, i => by rw [show ps s i (d + 1) = wrap64 ((wrap64 (bt s (i : Int))) - 48) :: ps s (i + 1) d from rfl, List.length_cons, ps_len s d]
theorem parse_spec (s : ByteArray) (hs : s.size ≤ 1048576) (L : List Int) (b : Bool) (hg : Ev (fun k => spec_cmGood.f k L) b) : ∀ (d i : Nat) (acc : List Int), i + d = s.size → acc.length + d ≤ 2000000 → acc ++ ps s i d = L →
    Ev (fun k => spec_ParseChomp.l0 k s acc (i : Int)) (if b = true then (L, true) else (([] : List Int), false)) := by
  intro d
  induction d with
  | zero =>
    intro i acc hi ha hL
    rw [show acc ++ ps s i 0 = acc from List.append_nil _] at hL
    subst hL
    refine Ev.step (fun k => by simp only [spec_ParseChomp.l0]; rw [if_neg (show ¬ (i : Int) < (s.size : Int) by omega)]) (Ev.bind hg ?_)
    cases b with
    | true => simp only [if_true]; exact Ev.now _
    | false => simp only [Bool.false_eq_true, if_false]; exact Ev.now _
  | succ d ih =>
    intro i acc hi ha hL
    have n := ih (i + 1) (acc ++ [wrap64 ((wrap64 (bt s (i : Int))) - 48)]) (by omega) (by rw [List.length_append, List.length_singleton]; omega) (by rw [← hL]; simp [ps])
    have c1 : (i : Int) < (s.size : Int) := by omega
    have c0 : 0 ≤ (i : Int) := by omega
    have c2 : acc.length < 17592186044416 := by omega
    have e3 : wrap64 ((i : Int) + 1) = ((i + 1 : Nat) : Int) := by rw [w64 (x := (i : Int) + 1) (by omega) (by omega)]; omega
    refine Ev.step (fun k => ?_) n
    simp only [spec_ParseChomp.l0, e3]
    rw [if_pos c1, if_pos c0, if_pos c2]
theorem parse_impl (s : ByteArray) (hs : s.size ≤ 1048576) (L : List Int) (b : Bool) (hg : Ev (fun k => impl_IsChomp.f k L) b) : ∀ (d i : Nat) (acc : List Int), i + d = s.size → acc.length + d ≤ 2000000 → acc ++ ps s i d = L →
    Ev (fun k => impl_ParseChomp.l0 k acc s (s.size : Int) (i : Int)) (if b = true then (L, true) else (([] : List Int), false)) := by
  intro d
  induction d with
  | zero =>
    intro i acc hi ha hL
    rw [show acc ++ ps s i 0 = acc from List.append_nil _] at hL
    subst hL
    refine Ev.step (fun k => by simp only [impl_ParseChomp.l0]; rw [if_neg (show ¬ (i : Int) < (s.size : Int) by omega)]) (Ev.bind hg ?_)
    cases b with
    | true => simp only [if_true]; exact Ev.now _
    | false => simp only [Bool.false_eq_true, if_false]; exact Ev.now _
  | succ d ih =>
    intro i acc hi ha hL
    have n := ih (i + 1) (acc ++ [wrap64 ((wrap64 (bt s (i : Int))) - 48)]) (by omega) (by rw [List.length_append, List.length_singleton]; omega) (by rw [← hL]; simp [ps])
    have c1 : (i : Int) < (s.size : Int) := by omega
    have c0 : 0 ≤ (i : Int) := by omega
    have c2 : acc.length < 17592186044416 := by omega
    have e3 : wrap64 ((i : Int) + 1) = ((i + 1 : Nat) : Int) := by rw [w64 (x := (i : Int) + 1) (by omega) (by omega)]; omega
    refine Ev.step (fun k => ?_) n
    simp only [impl_ParseChomp.l0, e3]
    rw [if_pos c1, if_pos c0, if_pos c1, if_pos c2]
theorem parse_both (s : ByteArray) (hs : s.size ≤ 1048576) : ∃ r : List Int × Bool, r.1.length ≤ 2000000 ∧ Ev (fun k => spec_ParseChomp.f k s) r ∧ Ev (fun k => impl_ParseChomp.f k s) r := by
  have hlen := ps_len s s.size 0
  obtain ⟨b, hg, hi, hb⟩ := good_both (ps s 0 s.size) (by omega)
  have a1 := parse_spec s hs _ b hg s.size 0 [] (by omega) (by rw [List.length_nil]; omega) rfl
  have a2 := parse_impl s hs _ b hi s.size 0 [] (by omega) (by rw [List.length_nil]; omega) rfl
  refine ⟨if b = true then (ps s 0 s.size, true) else (([] : List Int), false), ?_, ?_, a2⟩
  · by_cases c : b = true
    · rw [if_pos c]; show (ps s 0 s.size).length ≤ _; omega
    · rw [if_neg c]; simp
  · unfold spec_ParseChomp.f
    by_cases c6 : (s.size : Int) > 6
    · refine ev_if_pos c6 ?_
      have : ¬ b = true := fun h => by
        have := hb h
        omega
      rw [if_neg this]
      exact Ev.now _
    · exact ev_if_neg c6 a1
theorem FnExactParseChomp (a0 : ByteArray) (_ : a0.size ≤ 140737488351232) : ∃ k, laws_FnExactParseChomp.f k a0 = some true := by
  refine Ev.rounds (r := true) ?_
  unfold laws_FnExactParseChomp.f
  by_cases hl : a0.size ≤ 1048576
  · refine ev_if_neg (by omega) ?_
    obtain ⟨r, hr, hS, hI⟩ := parse_both a0 hl
    have he := eqIntS_refl r.1 (by omega)
    obtain ⟨c, l', hc, hm, hh⟩ := ints_held r.1 (by omega)
    refine Ev.bind hS (Ev.bind hI (Ev.bind he (ev_if_pos rfl ?_)))
    simp only [bne_self_eq_false]
    refine Ev.step (fun k => by simp only [laws_FnExactParseChomp.j0, Bool.false_eq_true, if_false]; rfl) ?_
    refine Ev.bind hm (Ev.bind hh (ev_if_neg (by omega) (ev_if_pos rfl (Ev.bind hI (Ev.bind he (ev_if_pos rfl ?_))))))
    simp only [bne_self_eq_false]
    refine Ev.step (fun k => by simp only [laws_FnExactParseChomp.j1, Bool.false_eq_true, if_false]; rfl) ?_
    exact Ev.bind hh (ev_if_neg (by omega) (ev_if_pos rfl (Ev.now _)))
  · exact ev_if_pos (by omega) (Ev.now _)
end Go.Proofs.Ytfppdfphbphhhaa.Pure
