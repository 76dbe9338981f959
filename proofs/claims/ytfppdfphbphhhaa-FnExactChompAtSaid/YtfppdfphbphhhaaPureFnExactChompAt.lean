/- ChompAt of the program answers as the reference's, for all lists and squares; its argument stays, and what it hands back is memory of its own. -/
import Derived.Test.YtfppdfphbphhhaaUInts
import Derived.Test.YtfppdfphbphhhaaUMarks
import Derived.Test.YtfppdfphbphhhaaCChomp
import Derived.Test.YtfppdfphbphhhaaPx52
import Derived.Test.YtfppdfphbphhhaaPx48
import Derived.Test.YtfppdfphbphhhaaPx51
import Derived.Test.YtfppdfphbphhhaaOBitten
namespace Go.Proofs.Ytfppdfphbphhhaa.Pure
open Go.RowKit Go.Proofs.Ytfppdfphbphhhaa.P Go.Proofs.YtfppdfphbphhhaaW.PrintWords Go.Proofs.YtfppdfphbphhhaaW.PrintLast Go.Proofs.YtfppdfphbphhhaaW.PrintMore
theorem least_mn (v x : Int) : spec_l1Least.f v x = some (mn v x) := by
  unfold spec_l1Least.f mn
  by_cases h : v < x
  · rw [if_pos h, if_neg (by omega)]
  · rw [if_neg h]
    by_cases h2 : x < v
    · rw [if_pos h2]
    · rw [if_neg h2, show v = x by omega]
theorem mn_ge (v x : Int) (hv : 0 ≤ v) (hx : 0 ≤ x) : 0 ≤ mn v x := by
  unfold mn
  by_cases h : x < v
  · rw [if_pos h]; exact hx
  · rw [if_neg h]; exact hv
def gl (x : Int) (y : Nat) : Nat → List Int → List Int
  | _, [] => []
  | i, v :: vs => (if y ≤ i then mn v x else v) :: gl x y (i + 1) vs
theorem gl_ge (x : Int) (y : Nat) : ∀ (vs : List Int) (i : Nat), y ≤ i → gl x y i vs = vs.map (fun v => mn v x)
  | [], _, _ => rfl
  | v :: vs, i, h => by
    show (if y ≤ i then mn v x else v) :: gl x y (i + 1) vs = mn v x :: vs.map _
    rw [if_pos h, gl_ge x y vs (i + 1) (by omega)]
theorem gl_split (x : Int) (y : Nat) : ∀ (vs : List Int) (i : Nat), i ≤ y → gl x y i vs = vs.take (y - i) ++ (vs.drop (y - i)).map (fun v => mn v x)
  | [], _, _ => by simp [gl]
  | v :: vs, i, h => by
    by_cases e : y = i
    · subst e
      rw [Nat.sub_self, List.take_zero, List.drop_zero, List.nil_append]
      exact gl_ge x y (v :: vs) y (Nat.le_refl _)
    · show (if y ≤ i then mn v x else v) :: gl x y (i + 1) vs = _
      rw [if_neg (by omega), gl_split x y vs (i + 1) (by omega), show y - i = y - (i + 1) + 1 by omega, List.take_succ_cons, List.drop_succ_cons, List.cons_append]
theorem sbite (l : List Int) (hn : l.length ≤ 100) (hv : ∀ v ∈ l, 1 ≤ v) (x : Int) (hx : 0 ≤ x) (y : Nat) : ∀ (d i : Nat) (acc : List Int), i + d = l.length → acc.length + d ≤ 1000 →
    Ev (fun k => spec_cmBite.l0 k x (y : Int) acc l (l.length : Int) (i : Int)) (acc ++ (gl x y i (l.drop i)).filter (fun z => !(z == 0))) := by
  intro d
  induction d with
  | zero =>
    intro i acc hi ha
    rw [List.drop_of_length_le (by omega)]
    refine Ev.step (f := fun _ => some acc) (fun k => ?_) (by rw [show acc ++ (gl x y i []).filter (fun z => !(z == 0)) = acc from List.append_nil _]; exact Ev.now _)
    simp only [spec_cmBite.l0]
    rw [if_neg (by omega)]
  | succ d ih =>
    intro i acc hi ha
    have hlt : i < l.length := by omega
    have h1 := hv l[i] (List.getElem_mem hlt)
    have c1 : (i : Int) < (l.length : Int) := by omega
    have c0 : 0 ≤ (i : Int) := by omega
    have e3 : wrap64 ((i : Int) + 1) = ((i + 1 : Nat) : Int) := by rw [w64 (by omega) (by omega)]; omega
    rw [List.drop_eq_getElem_cons hlt, show gl x y i (l[i] :: l.drop (i + 1)) = (if y ≤ i then mn l[i] x else l[i]) :: gl x y (i + 1) (l.drop (i + 1)) from rfl]
    by_cases hy : y ≤ i
    · rw [if_pos hy]
      have mg := mn_ge l[i] x (by clear e3; omega) hx
      refine Ev.step (fun k => by simp only [spec_cmBite.l0, rd_lt l i hlt, e3]; rw [if_pos c1, if_pos c0, if_pos c1, if_pos (show (i : Int) ≥ (y : Int) by clear e3; omega)]) (ev_val (least_mn _ _) ?_)
      by_cases hz : mn l[i] x > 0
      · rw [List.filter_cons_of_pos (by simp; clear e3; omega), show acc ++ mn l[i] x :: (gl x y (i + 1) (l.drop (i + 1))).filter (fun z => !(z == 0)) = (acc ++ [mn l[i] x]) ++ (gl x y (i + 1) (l.drop (i + 1))).filter (fun z => !(z == 0)) by simp]
        exact ev_if_pos hz (ev_if_pos (by clear e3; omega) (ih (i + 1) _ (by clear e3; omega) (by clear e3; rw [List.length_append, List.length_singleton]; omega)))
      · rw [List.filter_cons_of_neg (by simp; clear e3; omega)]
        exact ev_if_neg hz (ih (i + 1) acc (by clear e3; omega) (by clear e3; omega))
    · rw [if_neg hy, List.filter_cons_of_pos (by simp; clear e3; omega), show acc ++ l[i] :: (gl x y (i + 1) (l.drop (i + 1))).filter (fun z => !(z == 0)) = (acc ++ [l[i]]) ++ (gl x y (i + 1) (l.drop (i + 1))).filter (fun z => !(z == 0)) by simp]
      refine Ev.step (fun k => ?_) (ih (i + 1) (acc ++ [l[i]]) (by clear e3; omega) (by clear e3; rw [List.length_append, List.length_singleton]; omega))
      simp only [spec_cmBite.l0, rd_lt l i hlt, e3]
      rw [if_pos c1, if_pos c0, if_pos c1, if_neg (show ¬ (i : Int) ≥ (y : Int) by clear e3; omega), if_pos (show l[i] > 0 by clear e3; omega), if_pos (by clear e3; omega)]
theorem ibite (x : Int) : ∀ (d i : Nat) (m : List Int), i + d = m.length → m.length ≤ 100 → 0 < m.length → Ev (fun k => impl_bitten.l0 k x m (i : Int)) ((m.take i ++ (m.drop i).map (fun v => mn v x)).filter fun z => !(z == 0)) := by
  intro d
  induction d with
  | zero =>
    intro i m hi hm hp
    rw [List.drop_of_length_le (by omega), List.take_of_length_le (by omega), List.map_nil, List.append_nil]
    refine Ev.step (f := fun _ => some (m.filter fun z => !(z == 0))) (fun k => ?_) (Ev.now _)
    simp only [impl_bitten.l0]
    rw [if_neg (by omega), if_pos hp]
  | succ d ih =>
    intro i m hi hm hp
    have hlt : i < m.length := by omega
    have n := ih (i + 1) (m.set i (mn m[i] x)) (by rw [List.length_set]; omega) (by rw [List.length_set]; omega) (by rw [List.length_set]; omega)
    have e : (m.set i (mn m[i] x)).take (i + 1) ++ ((m.set i (mn m[i] x)).drop (i + 1)).map (fun v => mn v x) = m.take i ++ (m.drop i).map (fun v => mn v x) := by
      rw [List.take_succ_eq_append_getElem (by rw [List.length_set]; omega), List.getElem_set_self, List.take_set_of_le (by omega), List.drop_set_of_lt (by omega), List.append_assoc, List.drop_eq_getElem_cons hlt, List.map_cons]
      rfl
    rw [e] at n
    refine Ev.step (fun k => ?_) n
    simp only [impl_bitten.l0, rd_lt m i hlt, Int.toNat_natCast]
    rw [if_pos (by omega), if_pos (by omega), w64 (by omega) (by omega)]
    rfl
theorem chompAt_both (l : List Int) (hn : l.length ≤ 1048576) (a1 a2 : Int) : ∃ r : List Int × Bool, r.1.length ≤ 1000 ∧ Ev (fun k => spec_ChompAt.f k l a1 a2) r ∧ Ev (fun k => impl_ChompAt.f k l a1 a2) r := by
  obtain ⟨b, hg, hi, hb⟩ := good_both l hn
  cases b with
  | false =>
    refine ⟨([], false), by simp, ?_, ?_⟩
    · unfold spec_ChompAt.f
      exact Ev.bind hg (ev_if_neg (by decide) (Ev.now _))
    · unfold impl_ChompAt.f
      exact Ev.bind hi (ev_if_neg (by decide) (Ev.now _))
  | true =>
    obtain ⟨n1, n6, hv, -⟩ := hb rfl
    have e1 : wrap64 ((l.length : Int) - 1) = (l.length : Int) - 1 := w64 (by omega) (by omega)
    have hcan : ∃ c : Bool, spec_cmCan.f l a1 a2 = some c ∧ impl_canBite.f l a1 a2 = some c ∧ (c = true → 0 ≤ a1 ∧ 0 ≤ a2 ∧ a2 < (l.length : Int)) := by
      unfold spec_cmCan.f impl_canBite.f
      rw [e1, l1In_some, within_some]
      by_cases c2 : 0 ≤ a2 ∧ a2 ≤ (l.length : Int) - 1
      · obtain ⟨y, rfl⟩ : ∃ n : Nat, a2 = (n : Int) := ⟨a2.toNat, by clear e1; omega⟩
        have hy : y < l.length := by clear e1; omega
        have hb := hv l[y] (List.getElem_mem hy)
        have e2 : wrap64 (l[y] - 1) = l[y] - 1 := w64 (by clear e1; omega) (by clear e1; omega)
        rw [decide_eq_true c2]
        simp only [Option.bind_some, if_true]
        rw [if_pos (by clear e1 e2; omega), if_pos (by clear e1 e2; omega), if_pos (by clear e1 e2; omega), if_pos (by clear e1 e2; omega), rd_lt l y hy, e2, l1In_some, within_some]
        by_cases c1 : 0 ≤ a1 ∧ a1 ≤ l[y] - 1
        · rw [decide_eq_true c1]
          simp only [Option.bind_some, if_true]
          rw [w64 (x := a1 + (y : Int)) (by clear e1 e2; omega) (by clear e1 e2; omega)]
          refine ⟨decide (a1 + (y : Int) > 0), rfl, ?_, fun _ => ⟨c1.1, by clear e1 e2; omega, by clear e1 e2; omega⟩⟩
          by_cases h0 : a1 > 0
          · rw [if_pos h0, decide_eq_true (by clear e1 e2; omega)]
          · rw [if_neg h0]
            by_cases h3 : (y : Int) > 0
            · rw [decide_eq_true h3, decide_eq_true (by clear e1 e2; omega)]
            · rw [decide_eq_false h3, decide_eq_false (by clear e1 e2; omega)]
        · rw [decide_eq_false c1]
          simp only [Option.bind_some, Bool.false_eq_true, if_false]
          exact ⟨false, rfl, rfl, fun h => absurd h (by decide)⟩
      · rw [decide_eq_false c2]
        simp only [Option.bind_some, Bool.false_eq_true, if_false]
        exact ⟨false, rfl, rfl, fun h => absurd h (by decide)⟩
    obtain ⟨c, cS, cI, hc⟩ := hcan
    cases c with
    | false =>
      refine ⟨([], false), by simp, ?_, ?_⟩
      · unfold spec_ChompAt.f
        exact Ev.bind hg (ev_if_pos rfl (ev_val cS (ev_if_neg (by decide) (Ev.now _))))
      · unfold impl_ChompAt.f
        exact Ev.bind hi (ev_if_pos rfl (ev_val cI (ev_if_neg (by decide) (Ev.now _))))
    | true =>
      obtain ⟨hx, hy0, hyl⟩ := hc rfl
      obtain ⟨y, rfl⟩ : ∃ n : Nat, a2 = (n : Int) := ⟨a2.toNat, by clear e1; omega⟩
      have s := sbite l (by clear e1; omega) (fun v h => (hv v h).1) a1 hx y l.length 0 [] (by omega) (by clear e1; rw [List.length_nil]; omega)
      have t := ibite a1 (l.length - y) y l (by clear e1; omega) (by clear e1; omega) (by clear e1; omega)
      have g := gl_split a1 y l 0 (Nat.zero_le _)
      rw [Nat.sub_zero] at g
      rw [List.drop_zero, List.nil_append, g] at s
      have hlen : ((l.take y ++ (l.drop y).map (fun v => mn v a1)).filter (fun z => !(z == 0))).length ≤ 1000 := by
        refine Nat.le_trans (List.length_filter_le _ _) ?_
        rw [List.length_append, List.length_take, List.length_map, List.length_drop]
        clear e1
        omega
      refine ⟨(_, true), hlen, ?_, ?_⟩
      · unfold spec_ChompAt.f
        have s' : Ev (fun k => spec_cmBite.f k l a1 (y : Int)) ((l.take y ++ (l.drop y).map (fun v => mn v a1)).filter (fun z => !(z == 0))) := s
        exact Ev.bind hg (ev_if_pos rfl (ev_val cS (ev_if_pos rfl (Ev.bind s' (Ev.now _)))))
      · unfold impl_ChompAt.f
        refine Ev.bind hi (ev_if_pos rfl (ev_val cI (ev_if_pos rfl ?_)))
        have hcl : slices_Clone_int_int.f l = some l := by
          unfold slices_Clone_int_int.f
          rw [if_pos (by clear e1; omega)]
        have tb : Ev (fun k => impl_bitten.f k l a1 (y : Int)) ((l.take y ++ (l.drop y).map (fun v => mn v a1)).filter (fun z => !(z == 0))) := by
          unfold impl_bitten.f
          exact ev_val hcl t
        exact Ev.bind tb (Ev.now _)
theorem FnExactChompAt (l0 : List Int) (_ : l0.length ≤ maxLen) (_ : l0.length * 8 ≤ 140737488351232) (_ : (∀ x ∈ l0, (Lit.int .i64 x).wf = true)) (a1 : Int) (_ : (Lit.int .i64 a1).wf = true) (a2 : Int) (_ : (Lit.int .i64 a2).wf = true) : ∃ k, laws_FnExactChompAt.f k l0 a1 a2 = some true := by
  refine Ev.rounds (r := true) ?_
  unfold laws_FnExactChompAt.f
  by_cases hl : l0.length ≤ 1048576
  · simp only [if_neg (show ¬ ((l0.length : Int) > 1048576) by omega)]
    have ht := toIntS_ev l0 hl
    obtain ⟨r, hr, hS, hI⟩ := chompAt_both l0 hl a1 a2
    have he := eqIntS_refl r.1 (by omega)
    obtain ⟨c, l', hc, hm, hh⟩ := ints_held r.1 (by omega)
    obtain ⟨c2, l2, hc2, hm2, -⟩ := ints_held l0 (by omega)
    refine Ev.bind ht (Ev.bind hS (Ev.bind ht (Ev.bind hI (Ev.bind he ?_))))
    simp only [if_true, bne_self_eq_false]
    refine Ev.step (fun k => by simp only [laws_FnExactChompAt.j0, Bool.false_eq_true, if_false]; rfl) ?_
    refine Ev.bind ht (Ev.bind (eqIntS_refl l0 (by omega)) ?_)
    simp only [if_true]
    refine Ev.bind hm2 ?_
    simp only [if_neg (show ¬ c2 < 0 by omega)]
    refine Ev.bind he ?_
    simp only [if_true, bne_self_eq_false]
    refine Ev.step (fun k => by simp only [laws_FnExactChompAt.j1, Bool.false_eq_true, if_false]; rfl) ?_
    refine Ev.bind hm (Ev.bind hh ?_)
    simp only [if_neg (show ¬ c < 0 by omega), if_true]
    refine Ev.bind ht (Ev.bind hI (Ev.bind he ?_))
    simp only [if_true, bne_self_eq_false]
    refine Ev.step (fun k => by simp only [laws_FnExactChompAt.j2, Bool.false_eq_true, if_false]; rfl) ?_
    refine Ev.bind hh ?_
    simp only [if_neg (show ¬ c < 0 by omega), if_true]
    exact Ev.now _
  · simp only [if_pos (show ((l0.length : Int) > 1048576) by omega)]
    exact Ev.now _
end Go.Proofs.Ytfppdfphbphhhaa.Pure
