/- The reference's table of costs is the program's lists. Conditions: a bar of sides 1 to 12. -/
import Derived.Test.YthlnpbdjblocfaaUEatM
import Derived.Test.YthlnpbdjblocfaaUBar
import Derived.Test.YthlnpbdjblocfaaPx24
import Derived.Test.YthlnpbdjblocfaaPx18
namespace Go.Proofs.Ythlnpbdjblocfaa.Pure
open Go Go.RowKit Go.Proofs.Ythlnpbdjblocfaa.P Go.Proofs.YthlnpbdjblocfaaW.PrintWords Go.Proofs.YthlnpbdjblocfaaW.PrintLast Go.Proofs.YthlnpbdjblocfaaW.PrintMore
set_option linter.unusedVariables false
set_option linter.unusedSimpArgs false
theorem brLess_some (a b : Int) : spec_brLess.f a b = some (lessI a b) := by
  unfold spec_brLess.f lessI
  by_cases h : a < 0
  · rw [if_pos h, if_pos h]
  · rw [if_neg h, if_neg h]
    by_cases h2 : b < a
    · rw [if_pos h2, if_pos h2]
    · rw [if_neg h2, if_neg h2]
theorem mnS_low (f g : List Int) (t : Nat) : ∀ n, n + g.length ≤ t + 1 → mnS f g t n = -1
  | 0, _ => rfl
  | n + 1, h => by rw [mnS, if_neg (by omega), mnS_low f g t n (by omega)]
theorem mnS_high (f g : List Int) (t : Nat) : ∀ d n, t < n → mnS f g t (n + d) = mnS f g t n
  | 0, n, h => rfl
  | d + 1, n, h => by rw [show n + (d + 1) = (n + d) + 1 by omega, mnS, if_neg (by omega), mnS_high f g t d n h]
theorem sum_l0E {f g : List Int} (hf : Bd 20592 f) (hg : Bd 20592 g) (hl : f.length ≤ 200) (hl2 : g.length ≤ 200) (t : Nat) (ht : t ≤ 200) : ∀ d n, n + d = f.length → t + 1 ≤ n + g.length → Ev (fun k => spec_brSum.l0 k f g (t : Int) (mnS f g t n) (n : Int)) (mnS f g t f.length) := by
  intro d
  induction d with
  | zero =>
    intro n hn hk
    obtain rfl : n = f.length := by omega
    exact Ev.step (f := fun _ => some (mnS f g t f.length)) (fun k => by simp only [spec_brSum.l0]; rw [if_neg (by omega)]) (Ev.now _)
  | succ d ih =>
    intro n hn hk
    by_cases hnt : n ≤ t
    · have h1 := hf.rd (by decide) n
      have h2 := hg.rd (by decide) (t - n)
      have nx := ih (n + 1) (by omega) (by omega)
      rw [mnS, if_pos ⟨hnt, by omega⟩] at nx
      have E1 := Aside0.mk (show wrap64 ((t : Int) - (n : Int)) = ((t - n : Nat) : Int) by rw [w64 (by omega) (by omega)]; omega)
      have E2 := Aside0.mk (show wrap64 ((n : Int) + 1) = ((n + 1 : Nat) : Int) by rw [w64 (by omega) (by omega)]; rfl)
      have E3 := Aside0.mk (show wrap64 (rd f (n : Int) + rd g ((t - n : Nat) : Int)) = rd f (n : Int) + rd g ((t - n : Nat) : Int) from w64 (by omega) (by omega))
      refine Ev.step (fun k => by simp only [spec_brSum.l0]; rfl) ?_
      refine ev_if_pos (by omega) ?_
      refine ev_if_pos (by omega) ?_
      rw [E1.out, E2.out, E3.out]
      refine ev_if_pos (by omega) ?_
      refine ev_if_pos (by omega) ?_
      refine ev_if_pos (by omega) ?_
      exact ev_val (brLess_some _ _) nx
    · have e : mnS f g t f.length = mnS f g t n := by rw [show f.length = n + (d + 1) by omega, mnS_high f g t _ n (by omega)]
      rw [e]
      refine Ev.step (f := fun _ => some (mnS f g t n)) (fun k => ?_) (Ev.now _)
      simp only [spec_brSum.l0]
      rw [if_pos (by omega), if_neg (by omega)]
theorem sum_evE {f g : List Int} (hf : Bd 20592 f) (hg : Bd 20592 g) (hl : f.length ≤ 200) (hl2 : g.length ≤ 200) (t : Nat) (ht : t ≤ 200) (hlast : t + 1 ≤ f.length + g.length) : Ev (fun k => spec_brSum.f k f g (t : Int)) (mnS f g t f.length) := by
  have E1 := Aside0.mk (show wrap64 ((wrap64 ((t : Int) - (g.length : Int))) + 1) = (t : Int) - (g.length : Int) + 1 by rw [w64 (x := (t : Int) - (g.length : Int)) (by omega) (by omega), w64 (by omega) (by omega)])
  have e2 : spec_l1Most.f 0 ((t : Int) - (g.length : Int) + 1) = some ((t + 1 - g.length : Nat) : Int) := by
    unfold spec_l1Most.f
    by_cases h : (0 : Int) > (t : Int) - (g.length : Int) + 1
    · rw [if_pos h]; congr 1; omega
    · rw [if_neg h]; congr 1; omega
  unfold spec_brSum.f
  rw [E1.out]
  refine ev_val e2 ?_
  have := sum_l0E hf hg hl hl2 t ht (f.length - (t + 1 - g.length)) (t + 1 - g.length) (by omega) (by omega)
  by_cases hk : g.length ≤ t + 1
  · rw [mnS_low f g t _ (by omega)] at this
    exact this
  · rw [show t + 1 - g.length = 0 by omega] at this ⊢
    exact this
theorem price_some {q : Br} (i : OkB q) (c : Bool × Nat) : spec_brPrice.f (q.1 : Int) (q.2 : Int) c.1 = some (sqB q c) := by
  have h := sqB_bd i c
  unfold spec_brPrice.f spec_brLong.f
  unfold sqB at h ⊢
  unfold lnB at h ⊢
  rcases c with ⟨v, p⟩
  cases v with
  | true =>
    simp only [if_true] at h ⊢
    rw [Option.bind_some, Option.bind_some, Int.natCast_mul, w64 (by rw [← Int.natCast_mul]; omega) (by rw [← Int.natCast_mul]; omega)]
  | false =>
    simp only [Bool.false_eq_true, if_false] at h ⊢
    rw [Option.bind_some, Option.bind_some, Int.natCast_mul, w64 (by rw [← Int.natCast_mul]; omega) (by rw [← Int.natCast_mul]; omega)]
theorem eat_B {q : Br} (i : OkB q) : Bd 20592 (eat q) ∧ (eat q).length ≤ 145 := by
  have h := eat_bd i
  have ha := i.area
  refine ⟨fun x hx => ⟨(h x hx).1, by have := (h x hx).2; unfold topE at this; omega⟩, by rw [eat_len i]; omega⟩
/-- One break's sum in the reference's own words. -/
theorem MV_ev {q : Br} (i : OkB q) {c : Bool × Nat} (hc : c ∈ cuts q.1 q.2) {t : Nat} (ht : t ≤ arB q) : Ev (fun k => spec_brSum.f k (eat (oneB q c)) (eat (twoB q c)) (t : Int)) (MV q c t) := by
  have h1 := eat_B (i.one hc).1
  have h2 := eat_B (i.two hc).1
  have sp := ar_split hc
  have ha := i.area
  exact sum_evE h1.1 h2.1 (by omega) (by omega) t (by omega) (by rw [eat_len (i.one hc).1, eat_len (i.two hc).1]; omega)
theorem MV_bd {q : Br} (i : OkB q) {c : Bool × Nat} (hc : c ∈ cuts q.1 q.2) (t : Nat) : -2 ≤ MV q c t ∧ MV q c t ≤ 41184 := by
  have h1 := eat_B (i.one hc).1
  have h2 := eat_B (i.two hc).1
  exact mnS_bd h1.1 h2.1 (by decide) t _
theorem rd1_set (o : List (List Int)) (j t : Nat) (x : List Int) (hj : j < o.length) : rd_L1 (o.set j x) (t : Int) = if t = j then x else rd_L1 o (t : Int) := by
  unfold rd_L1
  rw [Int.toNat_natCast, List.getD_eq_getElem?_getD, List.getD_eq_getElem?_getD, List.getElem?_set]
  by_cases h : j = t
  · subst h
    rw [if_pos rfl, if_pos rfl, if_pos hj]
    rfl
  · rw [if_neg h, if_neg (Ne.symm h)]
theorem rd2_set (o : List (List (List Int))) (j t : Nat) (x : List (List Int)) (hj : j < o.length) : rd_L2 (o.set j x) (t : Int) = if t = j then x else rd_L2 o (t : Int) := by
  unfold rd_L2
  rw [Int.toNat_natCast, List.getD_eq_getElem?_getD, List.getD_eq_getElem?_getD, List.getElem?_set]
  by_cases h : j = t
  · subst h
    rw [if_pos rfl, if_pos rfl, if_pos hj]
    rfl
  · rw [if_neg h, if_neg (Ne.symm h)]
theorem cutsOf_in (v : Bool) : ∀ (d i p : Nat), i ≤ p → p < i + d → (v, p) ∈ cutsOf v i d := by
  intro d
  induction d with
  | zero => intro i p h1 h2; exact absurd h2 (by omega)
  | succ d ih =>
    intro i p h1 h2
    by_cases e : p = i
    · subst e; exact List.mem_cons_self
    · exact List.mem_cons_of_mem _ (ih (i + 1) p (by omega) (by omega))
theorem down_in (w h p : Nat) (h1 : 1 ≤ p) (h2 : p < w) : (true, p) ∈ cuts w h := List.mem_append.2 (.inl (cutsOf_in true _ _ p h1 (by omega)))
theorem across_in (w h p : Nat) (h1 : 1 ≤ p) (h2 : p < h) : (false, p) ∈ cuts w h := List.mem_append.2 (.inr (cutsOf_in false _ _ p h1 (by omega)))
section
variable (W H w h : Nat)
/-- What the table and its newest rows hold. -/
structure Tab (X3 : List (List (List Int))) : Prop where
  len : X3.length = W + 1
  rows : ∀ i, 1 ≤ i → i < w → (rd_L2 X3 (i : Int)).length = H + 1 ∧ ∀ j, 1 ≤ j → j ≤ H → rd_L1 (rd_L2 X3 (i : Int)) (j : Int) = eat (i, j)
structure RowsE (X5 : List (List Int)) : Prop where
  len : X5.length = H + 1
  rows : ∀ j, 1 ≤ j → j < h → rd_L1 X5 (j : Int) = eat (w, j)
  z : rd_L1 X5 ((0 : Nat) : Int) = []
variable {W H w h}
variable {X3 : List (List (List Int))} {X5 : List (List Int)}
theorem eat_l4 (i : OkB (w, h)) (hH : h ≤ H) (hH2 : H ≤ 12) (hX5 : RowsE H w h X5) (t : Nat) (h1 : 1 ≤ t) (h2 : t < arB (w, h)) (L : List Int) (hL : L.length = arB (w, h) + 1) (r : List (List (List Int))) : ∀ (d p : Nat) (acc : Int), p + d = h → 1 ≤ p →
    Ev (fun k => spec_brEat.l2 k X3 (w : Int) X5 (h : Int) (L.set t ((cutsOf false p d).foldl (stepT (w, h) t) acc)) ((t + 1 : Nat) : Int) (W : Int) (H : Int) (w : Int) (h : Int)) r →
    Ev (fun k => spec_brEat.l4 k X3 (w : Int) X5 (h : Int) (L.set t acc) (t : Int) (p : Int) (W : Int) (H : Int) (w : Int) (h : Int)) r := by
  have ha := i.area
  intro d
  induction d with
  | zero =>
    intro p acc hp hp1 next
    refine Ev.step (fun k => by simp only [spec_brEat.l4]; rfl) ?_
    refine ev_if_neg (by omega) ?_
    rw [w64 (x := (t : Int) + 1) (by omega) (by omega)]
    exact next
  | succ d ih =>
    intro p acc hp hp1 next
    have hc := across_in w h p hp1 (by omega)
    have hm := MV_ev i hc (t := t) (by omega)
    have hb := MV_bd i hc t
    have sq := sqB_bd i (false, p)
    have hpr := price_some i (false, p)
    have n := ih (p + 1) (stepT (w, h) t acc (false, p)) (by omega) (by omega) (by rw [show cutsOf false p (d + 1) = (false, p) :: cutsOf false (p + 1) d from rfl, List.foldl_cons] at next; exact next)
    have E1 := Aside0.mk (show wrap64 ((h : Int) - (p : Int)) = ((h - p : Nat) : Int) by rw [w64 (by omega) (by omega)]; omega)
    have E2 := Aside0.mk (show wrap64 ((p : Int) + 1) = ((p + 1 : Nat) : Int) by rw [w64 (by omega) (by omega)]; rfl)
    have E3 := Aside0.mk (show wrap64 (MV (w, h) (false, p) t + sqB (w, h) (false, p)) = sqB (w, h) (false, p) + MV (w, h) (false, p) t by rw [w64 (by omega) (by omega)]; omega)
    have hr := hX5.rows p hp1 (by omega)
    have hr2 := hX5.rows (h - p) (by omega) (by omega)
    have hl5 := hX5.len
    have hacc : rd (L.set t acc) (t : Int) = acc := by rw [rd_set _ _ _ _ (by omega), if_pos rfl]
    refine Ev.step (fun k => by simp only [spec_brEat.l4]; rfl) ?_
    refine ev_if_pos (by omega) ?_
    refine ev_if_pos (by omega) ?_
    refine ev_if_pos (by rw [List.length_set]; omega) ?_
    refine ev_if_pos (by omega) ?_
    refine ev_if_pos (by omega) ?_
    rw [E1.out, hr, hr2, hacc, E2.out]
    refine ev_if_pos (by omega) ?_
    refine ev_if_pos (by omega) ?_
    refine Ev.bind hm ?_
    refine ev_val hpr ?_
    rw [E3.out]
    refine ev_val (brLess_some _ _) ?_
    rw [Int.toNat_natCast, List.set_set]
    exact n
theorem eat_l3 (i : OkB (w, h)) (hW : w ≤ W) (hW2 : W ≤ 12) (hH : h ≤ H) (hH2 : H ≤ 12) (hX3 : Tab W H w X3) (hX5 : RowsE H w h X5) (t : Nat) (h1 : 1 ≤ t) (h2 : t < arB (w, h)) (L : List Int) (hL : L.length = arB (w, h) + 1) (r : List (List (List Int))) : ∀ (d p : Nat) (acc : Int), p + d = w → 1 ≤ p →
    Ev (fun k => spec_brEat.l2 k X3 (w : Int) X5 (h : Int) (L.set t ((cutsOf false 1 (h - 1)).foldl (stepT (w, h) t) ((cutsOf true p d).foldl (stepT (w, h) t) acc))) ((t + 1 : Nat) : Int) (W : Int) (H : Int) (w : Int) (h : Int)) r →
    Ev (fun k => spec_brEat.l3 k X3 (w : Int) X5 (h : Int) (L.set t acc) (t : Int) (p : Int) (W : Int) (H : Int) (w : Int) (h : Int)) r := by
  have ha := i.area
  intro d
  induction d with
  | zero =>
    intro p acc hp hp1 next
    have hh1 : 1 ≤ h := i.2.2.1
    refine Ev.step (fun k => by simp only [spec_brEat.l3]; rfl) ?_
    refine ev_if_neg (by omega) ?_
    exact eat_l4 i hH hH2 hX5 t h1 h2 L hL r (h - 1) 1 acc (by omega) (Nat.le_refl _) next
  | succ d ih =>
    intro p acc hp hp1 next
    have hh1 : 1 ≤ h := i.2.2.1
    have hc := down_in w h p hp1 (by omega)
    have hm := MV_ev i hc (t := t) (by omega)
    have hb := MV_bd i hc t
    have sq := sqB_bd i (true, p)
    have hpr := price_some i (true, p)
    have n := ih (p + 1) (stepT (w, h) t acc (true, p)) (by omega) (by omega) (by rw [show cutsOf true p (d + 1) = (true, p) :: cutsOf true (p + 1) d from rfl, List.foldl_cons] at next; exact next)
    have E1 := Aside0.mk (show wrap64 ((w : Int) - (p : Int)) = ((w - p : Nat) : Int) by rw [w64 (by omega) (by omega)]; omega)
    have E2 := Aside0.mk (show wrap64 ((p : Int) + 1) = ((p + 1 : Nat) : Int) by rw [w64 (by omega) (by omega)]; rfl)
    have E3 := Aside0.mk (show wrap64 (MV (w, h) (true, p) t + sqB (w, h) (true, p)) = sqB (w, h) (true, p) + MV (w, h) (true, p) t by rw [w64 (by omega) (by omega)]; omega)
    obtain ⟨hlr, hr⟩ := hX3.rows p hp1 (by omega)
    obtain ⟨hlr2, hr2⟩ := hX3.rows (w - p) (by omega) (by omega)
    have hl3 := hX3.len
    have hacc : rd (L.set t acc) (t : Int) = acc := by rw [rd_set _ _ _ _ (by omega), if_pos rfl]
    refine Ev.step (fun k => by simp only [spec_brEat.l3]; rfl) ?_
    refine ev_if_pos (by omega) ?_
    refine ev_if_pos (by omega) ?_
    refine ev_if_pos (by rw [List.length_set]; omega) ?_
    refine ev_if_pos (by omega) ?_
    refine ev_if_pos (by omega) ?_
    refine ev_if_pos (by omega) ?_
    refine ev_if_pos (by omega) ?_
    rw [E1.out, hr h hh1 hH, hr2 h hh1 hH, hacc, E2.out]
    refine ev_if_pos (by omega) ?_
    refine ev_if_pos (by omega) ?_
    refine ev_if_pos (by omega) ?_
    refine Ev.bind hm ?_
    refine ev_val hpr ?_
    rw [E3.out]
    refine ev_val (brLess_some _ _) ?_
    rw [Int.toNat_natCast, List.set_set]
    exact n
/-- The costs, as far as they are told. -/
def costsAt (q : Br) (n : Nat) : List Int := (List.range (arB q + 1)).map fun (t : Nat) => if t < n then rd (eat q) (t : Int) else 0
theorem costsAt_len (q : Br) (n : Nat) : (costsAt q n).length = arB q + 1 := by unfold costsAt; simp
theorem costsAt_get (q : Br) (n j : Nat) (h : j < (costsAt q n).length) : (costsAt q n)[j] = if j < n then rd (eat q) (j : Int) else 0 := by simp only [costsAt, List.getElem_map, List.getElem_range]
theorem costsAt_set (q : Br) (n : Nat) (hn : n ≤ arB q) : (costsAt q n).set n (rd (eat q) (n : Int)) = costsAt q (n + 1) := by
  refine List.ext_getElem (by rw [List.length_set, costsAt_len, costsAt_len]) (fun j h1 h2 => ?_)
  rw [List.getElem_set, costsAt_get, costsAt_get]
  by_cases e : n = j
  · subst e
    rw [if_pos rfl, if_pos (by omega)]
  · rw [if_neg e]
    by_cases e2 : j < n
    · rw [if_pos e2, if_pos (by omega)]
    · rw [if_neg e2, if_neg (by omega)]
theorem costsAt_one (i : OkB (w, h)) : List.replicate (arB (w, h) + 1) (0 : Int) = costsAt (w, h) 1 := by
  refine List.ext_getElem (by rw [List.length_replicate, costsAt_len]) (fun j h1 h2 => ?_)
  rw [List.getElem_replicate, costsAt_get]
  by_cases e : j < 1
  · rw [if_pos e, show j = 0 by omega, eat_ends i (Nat.zero_le _) (by omega)]
  · rw [if_neg e]
theorem costsAt_all (i : OkB (w, h)) : costsAt (w, h) (arB (w, h)) = eat (w, h) := by
  refine List.ext_getElem (by rw [eat_len i, costsAt_len]) (fun j h1 h2 => ?_)
  have hj : j ≤ arB (w, h) := by rw [eat_len i] at h2; omega
  rw [costsAt_get, ← rd_lt _ j h2]
  by_cases e : j < arB (w, h)
  · rw [if_pos e]
  · rw [if_neg e, eat_ends i hj (by omega)]
theorem eat_l2 (i : OkB (w, h)) (hW : w ≤ W) (hW2 : W ≤ 12) (hH : h ≤ H) (hH2 : H ≤ 12) (hX3 : Tab W H w X3) (hX5 : RowsE H w h X5) (r : List (List (List Int)))
    (next : Ev (fun k => spec_brEat.l1 k X3 (w : Int) (X5.set h (eat (w, h))) ((h + 1 : Nat) : Int) (W : Int) (H : Int)) r) : ∀ (d t : Nat), t + d = arB (w, h) → 1 ≤ t →
    Ev (fun k => spec_brEat.l2 k X3 (w : Int) X5 (h : Int) (costsAt (w, h) t) (t : Int) (W : Int) (H : Int) (w : Int) (h : Int)) r := by
  have ha := i.area
  have hw12 := i.2.1
  have hh12 := i.2.2.2
  have E0 := Aside0.mk (show wrap64 ((w : Int) * (h : Int)) = ((arB (w, h) : Nat) : Int) by
    have e : (w : Int) * (h : Int) = ((arB (w, h) : Nat) : Int) := by rw [← Int.natCast_mul]; rfl
    rw [e, w64 (by omega) (by omega)])
  intro d
  induction d with
  | zero =>
    intro t ht h1
    obtain rfl : t = arB (w, h) := by omega
    have hl := hX5.len
    have E1 := Aside0.mk (show wrap64 ((h : Int) + 1) = ((h + 1 : Nat) : Int) by rw [w64 (by omega) (by omega)]; rfl)
    rw [costsAt_all i]
    refine Ev.step (fun k => by simp only [spec_brEat.l2]; rfl) ?_
    rw [E0.out]
    refine ev_if_neg (by omega) ?_
    refine ev_if_pos (by omega) ?_
    refine ev_if_pos (by omega) ?_
    rw [E1.out, Int.toNat_natCast]
    exact next
  | succ d ih =>
    intro t ht h1
    have n := ih (t + 1) (by omega) (by omega)
    have hval : (cutsOf false 1 (h - 1)).foldl (stepT (w, h) t) ((cutsOf true 1 (w - 1)).foldl (stepT (w, h) t) (-1)) = rd (eat (w, h)) (t : Int) := by
      rw [← List.foldl_append, eat_rd i (by omega), if_pos ⟨h1, by omega⟩]
      rfl
    rw [← costsAt_set (w, h) t (by omega), ← hval] at n
    have m := eat_l3 i hW hW2 hH hH2 hX3 hX5 t h1 (by omega) (costsAt (w, h) t) (costsAt_len _ _) r (w - 1) 1 (-1) (by have := i.1; simp only at this; omega) (Nat.le_refl _) n
    refine Ev.step (fun k => by simp only [spec_brEat.l2]; rfl) ?_
    rw [E0.out]
    refine ev_if_pos (by omega) ?_
    refine ev_if_pos (by omega) ?_
    refine ev_if_pos (by rw [costsAt_len]; omega) ?_
    rw [Int.toNat_natCast]
    exact m
theorem eat_l1 (hw1 : 1 ≤ w) (hW : w ≤ W) (hW2 : W ≤ 12) (hH2 : H ≤ 12) (hX3 : Tab W H w X3) (r : List (List (List Int)))
    (next : ∀ X5, RowsE H w (H + 1) X5 → Ev (fun k => spec_brEat.l0 k (X3.set w X5) ((w + 1 : Nat) : Int) (W : Int) (H : Int)) r) : ∀ (d h : Nat) (X5 : List (List Int)), h + d = H + 1 → 1 ≤ h → RowsE H w h X5 →
    Ev (fun k => spec_brEat.l1 k X3 (w : Int) X5 (h : Int) (W : Int) (H : Int)) r := by
  intro d
  induction d with
  | zero =>
    intro h X5 hh h1 hX5
    obtain rfl : h = H + 1 := by omega
    have hl := hX3.len
    have E1 := Aside0.mk (show wrap64 ((w : Int) + 1) = ((w + 1 : Nat) : Int) by rw [w64 (by omega) (by omega)]; rfl)
    refine Ev.step (fun k => by simp only [spec_brEat.l1]; rfl) ?_
    refine ev_if_neg (by omega) ?_
    refine ev_if_pos (by omega) ?_
    refine ev_if_pos (by omega) ?_
    rw [E1.out, Int.toNat_natCast]
    exact next X5 hX5
  | succ d ih =>
    intro h X5 hh h1 hX5
    have i : OkB (w, h) := ⟨hw1, by show w ≤ 12; omega, h1, by show h ≤ 12; omega⟩
    have ha := i.area
    have hl := hX5.len
    have n := ih (h + 1) (X5.set h (eat (w, h))) (by omega) (by omega) ⟨by rw [List.length_set]; exact hl, fun j hj1 hj2 => by
      rw [rd1_set _ _ _ _ (by omega)]
      by_cases e : j = h
      · subst e; rw [if_pos rfl]
      · rw [if_neg e]; exact hX5.rows j hj1 (by omega), by rw [rd1_set _ _ _ _ (by omega), if_neg (by omega)]; exact hX5.z⟩
    have m := eat_l2 i hW hW2 (by omega) hH2 hX3 hX5 r n (arB (w, h) - 1) 1 (by omega) (Nat.le_refl _)
    rw [← costsAt_one i] at m
    have E0 := Aside0.mk (show wrap64 ((wrap64 ((w : Int) * (h : Int))) + 1) = ((arB (w, h) + 1 : Nat) : Int) by
      have e : (w : Int) * (h : Int) = ((arB (w, h) : Nat) : Int) := by rw [← Int.natCast_mul]; rfl
      rw [e, w64 (x := ((arB (w, h) : Nat) : Int)) (by omega) (by omega), w64 (by omega) (by omega)]
      rfl)
    refine Ev.step (fun k => by simp only [spec_brEat.l1]; rfl) ?_
    refine ev_if_pos (by omega) ?_
    rw [E0.out, Int.toNat_natCast]
    refine ev_if_pos (by omega) ?_
    refine ev_if_pos (by omega) ?_
    exact m
theorem eat_l0 (hW2 : W ≤ 12) (hH2 : H ≤ 12) (h1H : 1 ≤ H) : ∀ (d w : Nat) (X3 : List (List (List Int))), w + d = W + 1 → 1 ≤ w → Tab W H w X3 →
    ∃ T, Tab W H (W + 1) T ∧ Ev (fun k => spec_brEat.l0 k X3 (w : Int) (W : Int) (H : Int)) T := by
  intro d
  induction d with
  | zero =>
    intro w X3 hw h1 hX3
    obtain rfl : w = W + 1 := by omega
    refine ⟨X3, hX3, Ev.step (f := fun _ => some X3) (fun k => ?_) (Ev.now _)⟩
    simp only [spec_brEat.l0]
    rw [if_neg (by omega)]
  | succ d ih =>
    intro w X3 hw h1 hX3
    have hl := hX3.len
    -- the rows are the same whatever the list that holds them
    have key : ∀ X5, RowsE H w (H + 1) X5 → Tab W H (w + 1) (X3.set w X5) := fun X5 hX5 => ⟨by rw [List.length_set]; exact hl, fun i hi1 hi2 => by
      rw [rd2_set _ _ _ _ (by omega)]
      by_cases e : i = w
      · subst e
        rw [if_pos rfl]
        exact ⟨hX5.len, fun j hj1 hj2 => hX5.rows j hj1 (by omega)⟩
      · rw [if_neg e]
        exact hX3.rows i hi1 (by omega)⟩
    have E0 := Aside0.mk (show wrap64 ((H : Int) + 1) = ((H + 1 : Nat) : Int) by rw [w64 (by omega) (by omega)]; rfl)
    -- the very rows that the loop leaves
    obtain ⟨R, hRd⟩ : ∃ R : List (List Int), (List.range (H + 1)).map (fun j => if 1 ≤ j then eat (w, j) else []) = R := ⟨_, rfl⟩
    have hRg : ∀ j, j < H + 1 → rd_L1 R (j : Int) = if 1 ≤ j then eat (w, j) else [] := fun j hj => by
      rw [← hRd]
      unfold rd_L1
      rw [Int.toNat_natCast, List.getD_eq_getElem?_getD, List.getElem?_map, List.getElem?_range hj]
      rfl
    have hR : RowsE H w (H + 1) R := ⟨by rw [← hRd]; simp, fun j hj1 hj2 => by rw [hRg j hj2, if_pos hj1], by rw [hRg 0 (by omega), if_neg (by omega)]⟩
    obtain ⟨T, hT, hev⟩ := ih (w + 1) (X3.set w R) (by omega) (by omega) (key R hR)
    refine ⟨T, hT, ?_⟩
    have uniq : ∀ (X5 : List (List Int)), RowsE H w (H + 1) X5 → X5 = R := fun X5 hX5 => by
      refine List.ext_getElem (by rw [hX5.len, hR.len]) (fun j h1 h2 => ?_)
      have hj : j < H + 1 := by rw [← hX5.len]; exact h1
      have e1 : X5[j] = rd_L1 X5 (j : Int) := by
        unfold rd_L1
        rw [Int.toNat_natCast, List.getD_eq_getElem?_getD, List.getElem?_eq_getElem h1]
        rfl
      have e2 : R[j] = rd_L1 R (j : Int) := by
        unfold rd_L1
        rw [Int.toNat_natCast, List.getD_eq_getElem?_getD, List.getElem?_eq_getElem h2]
        rfl
      rw [e1, e2]
      by_cases e : 1 ≤ j
      · rw [hX5.rows j e hj, hR.rows j e hj]
      · obtain rfl : j = 0 := by omega
        rw [hX5.z, hR.z]
    have hz : RowsE H w 1 (List.replicate (H + 1) []) := ⟨by rw [List.length_replicate], fun j hj1 hj2 => absurd hj2 (by omega), by
      unfold rd_L1
      rw [Int.toNat_natCast, List.getD_eq_getElem?_getD, List.getElem?_replicate, if_pos (by omega)]
      rfl⟩
    have m := eat_l1 h1 (by omega) hW2 hH2 hX3 T (fun X5 hX5 => by rw [uniq X5 hX5]; exact hev) H 1 _ (by omega) (Nat.le_refl _) hz
    refine Ev.step (fun k => by simp only [spec_brEat.l0]; rfl) ?_
    refine ev_if_pos (by omega) ?_
    rw [E0.out, Int.toNat_natCast]
    refine ev_if_pos (by omega) ?_
    refine ev_if_pos (by omega) ?_
    exact m
theorem brEat_ev (hW1 : 1 ≤ W) (hW2 : W ≤ 12) (h1H : 1 ≤ H) (hH2 : H ≤ 12) : ∃ T, Tab W H (W + 1) T ∧ Ev (fun k => spec_brEat.f k (W : Int) (H : Int)) T := by
  have hz : Tab W H 1 (List.replicate (W + 1) []) := ⟨by rw [List.length_replicate], fun i hi1 hi2 => absurd hi2 (by omega)⟩
  obtain ⟨T, hT, hev⟩ := eat_l0 hW2 hH2 h1H W 1 _ (by omega) (Nat.le_refl _) hz
  refine ⟨T, hT, ?_⟩
  have E0 := Aside0.mk (show wrap64 ((W : Int) + 1) = ((W + 1 : Nat) : Int) by rw [w64 (by omega) (by omega)]; rfl)
  unfold spec_brEat.f
  rw [E0.out, Int.toNat_natCast]
  refine ev_if_pos (by omega) ?_
  refine ev_if_pos (by omega) ?_
  exact hev
theorem brSome_some (a b t : Int) : spec_brSome.f a b t = some (goodB a b && decide (0 ≤ t ∧ t ≤ wrap64 (a * b))) := by
  unfold spec_brSome.f
  rw [brGood_some, Option.bind_some]
  cases hg : goodB a b with
  | true => rw [if_pos rfl, l1In_some]; rfl
  | false => rw [if_neg (by decide)]; rfl
end
end Go.Proofs.Ythlnpbdjblocfaa.Pure
