/- The reference's table of ways: what it comes to is the program's number. Conditions: a bar of sides 1 to 12. -/
import Derived.Test.YthlnpbdjblocfaaOCountC
import Derived.Test.YthlnpbdjblocfaaPx7
namespace Go.Proofs.Ythlnpbdjblocfaa.Pure
open Go Go.RowKit Go.Proofs.Ythlnpbdjblocfaa.P Go.Proofs.YthlnpbdjblocfaaW.PrintWords Go.Proofs.YthlnpbdjblocfaaW.PrintLast Go.Proofs.YthlnpbdjblocfaaW.PrintMore
set_option linter.unusedVariables false
theorem least_mn (a b : Int) : spec_l1Least.f a b = some (mn a b) := by
  unfold spec_l1Least.f mn
  by_cases h : a < b
  · rw [if_pos h, if_neg (by omega)]
  · rw [if_neg h]
    by_cases h2 : b < a
    · rw [if_pos h2]
    · rw [if_neg h2, show a = b by omega]
theorem times_some {a b : Int} (a1 : 1 ≤ a) (a2 : a ≤ MT + 1) (b1 : 1 ≤ b) (b2 : b ≤ MT + 1) : spec_brTimes.f a b = some (T2 a b) := by
  have h1 : (0 : Int) ≤ (1000000000000001 : Int) / a := Int.ediv_nonneg (by decide) (by omega)
  have h2 : (1000000000000001 : Int) / a ≤ 1000000000000001 := Int.ediv_le_self _ (by decide)
  have hp : 0 ≤ a * b := Int.mul_nonneg (by omega) (by omega)
  have e : (1000000000000001 : Int) / a < b ↔ 1000000000000001 < b * a := Int.ediv_lt_iff_lt_mul (by omega)
  unfold spec_brTimes.f
  rw [if_pos (by omega), if_neg (by omega), w64 (x := (1000000000000001 : Int) / a) (by omega) (by omega)]
  by_cases h : b > (1000000000000001 : Int) / a
  · rw [if_pos h]
    have := e.1 h
    rw [Int.mul_comm] at this
    unfold T2
    rw [if_pos (show a * b > MT by unfold MT; omega)]
    rfl
  · rw [if_neg h]
    have hle : a * b ≤ 1000000000000001 := by
      have h3 : ¬ 1000000000000001 < b * a := fun c => h (e.2 c)
      rw [Int.mul_comm] at h3
      omega
    rw [w64 (x := a * b) (by omega) (by omega), least_mn]
    simp only [Option.bind_some, Option.some.injEq]
    unfold T2 mn
    by_cases c : a * b > MT
    · rw [if_pos c]
      have : a * b = 1000000000000001 := by unfold MT at c; omega
      rw [this]
      rfl
    · rw [if_neg c, if_neg (by unfold MT at c; omega)]
/-- The row, its far end one round ahead. -/
def mixP (i j S : Nat) : List Int := (List.range (S + 1)).map fun m => if j < m then pc (i + 1) m else pc i m
theorem mixP_len (i j S : Nat) : (mixP i j S).length = S + 1 := by unfold mixP; simp
theorem mixP_rd (i j S m : Nat) (h : m ≤ S) : rd (mixP i j S) (m : Int) = if j < m then pc (i + 1) m else pc i m := by
  rw [rd_lt _ m (by rw [mixP_len]; omega)]
  unfold mixP
  simp
theorem mixP_get (i j S m : Nat) (h : m < (mixP i j S).length) : (mixP i j S)[m] = if j < m then pc (i + 1) m else pc i m := by simp [mixP]
theorem mixP_set (i j S : Nat) (h1 : 1 ≤ j) (h2 : j ≤ S) : (mixP i j S).set j (pc (i + 1) j) = mixP i (j - 1) S := by
  apply List.ext_getElem
  · rw [List.length_set, mixP_len, mixP_len]
  · intro m h3 h4
    rw [List.getElem_set, mixP_get, mixP_get]
    by_cases e : j = m
    · subst e
      rw [if_pos rfl, if_pos (by omega)]
    · rw [if_neg e]
      by_cases c : j < m
      · rw [if_pos c, if_pos (by omega)]
      · rw [if_neg c, if_neg (by omega)]
theorem mixP_next (i S : Nat) : mixP i 0 S = mixP (i + 1) S S := by
  unfold mixP
  apply List.map_congr_left
  intro m hm
  have hm := List.mem_range.1 hm
  rw [if_neg (show ¬ S < m by omega)]
  by_cases c : 0 < m
  · rw [if_pos c]
  · rw [if_neg c]
    obtain rfl : m = 0 := by omega
    rw [pc_zero, pc_zero]
theorem brch_l1 (S i d : Nat) (hS : S ≤ 200) (r : Int) (next : Ev (fun k => spec_brChoose.l0 k (wrap64 ((d : Int) - 1)) (S : Int) (mixP (i + 1) S S)) r) : ∀ j : Nat, j ≤ S → Ev (fun k => spec_brChoose.l1 k (d : Int) (S : Int) (mixP i j S) (j : Int)) r := by
  intro j
  induction j with
  | zero =>
    intro hj
    refine Ev.step (fun k => ?_) next
    simp only [spec_brChoose.l1]
    rw [if_neg (by decide), mixP_next]
  | succ j ih =>
    intro hj
    have b1 := pc_bd i (j + 1)
    have b2 := pc_bd i j
    have e0 := Aside0.mk (show wrap64 (((j + 1 : Nat) : Int) - 1) = (j : Int) by rw [w64 (by omega) (by omega)]; omega)
    have e3 : wrap64 ((rd (mixP i (j + 1) S) ((j + 1 : Nat) : Int)) + (rd (mixP i (j + 1) S) (j : Int))) = pc i j + pc i (j + 1) := by
      rw [mixP_rd i (j + 1) S (j + 1) hj, mixP_rd i (j + 1) S j (by omega), if_neg (by omega), if_neg (by omega), w64 (by omega) (by unfold MT at b1 b2; omega), Int.add_comm]
    have e4 := Aside0.mk e3
    clear e3
    refine Ev.step (fun k => by simp only [spec_brChoose.l1, e0.out, e4.out]; rw [if_pos (by omega), if_pos (by omega), if_pos (by rw [mixP_len]; omega), if_pos (by omega), if_pos (by rw [mixP_len]; omega)]) ?_
    refine ev_val (a := pc (i + 1) (j + 1)) (least_mn _ _) ?_
    rw [Int.toNat_natCast, mixP_set i (j + 1) S (by omega) hj]
    exact ih (by omega)
theorem brch_l0 (S N : Nat) (hS : S ≤ 200) (hN : N ≤ 200) : ∀ (d i : Nat), i + d = N → Ev (fun k => spec_brChoose.l0 k (d : Int) (S : Int) (mixP i S S)) (pc N S) := by
  intro d
  induction d with
  | zero =>
    intro i hi
    obtain rfl : i = N := by omega
    refine Ev.step (f := fun _ => some (pc i S)) (fun k => ?_) (Ev.now _)
    simp only [spec_brChoose.l0]
    rw [if_neg (by decide), if_pos (by omega), if_pos (by rw [mixP_len]; omega), mixP_rd i S S S (Nat.le_refl _), if_neg (by omega)]
  | succ d ih =>
    intro i hi
    have n := ih (i + 1) (by omega)
    have e0 : wrap64 (((d + 1 : Nat) : Int) - 1) = (d : Int) := by rw [w64 (by omega) (by omega)]; omega
    have l1 := brch_l1 S i (d + 1) hS (pc N S) (by rw [e0]; exact n) S (Nat.le_refl _)
    refine Ev.step (fun k => ?_) l1
    simp only [spec_brChoose.l0]
    rw [if_pos (by clear e0; omega)]
theorem brch_start (S : Nat) : (List.replicate (S + 1) (0 : Int)).set 0 1 = mixP 0 S S := by
  apply List.ext_getElem
  · rw [List.length_set, List.length_replicate, mixP_len]
  · intro m h3 h4
    rw [List.getElem_set, mixP_get, List.getElem_replicate]
    rw [mixP_len] at h4
    rw [show (if S < m then pc (0 + 1) m else pc 0 m) = pc 0 m from if_neg (by omega)]
    cases m with
    | zero => rfl
    | succ m => rw [if_neg (by omega)]; rfl
theorem brch_ev (S N : Nat) (hS : S ≤ 200) (hN : N ≤ 200) : Ev (fun k => spec_brChoose.f k (N : Int) (S : Int)) (pc N S) := by
  have e0 : wrap64 ((S : Int) + 1) = ((S + 1 : Nat) : Int) := by rw [w64 (by omega) (by omega)]; omega
  have n := brch_l0 S N hS hN N 0 (by omega)
  rw [← brch_start] at n
  unfold spec_brChoose.f
  simp only [e0, Int.toNat_natCast]
  clear e0
  refine ev_if_pos (by omega) (ev_if_pos (by omega) ?_)
  simp only [Option.bind_some]
  refine ev_if_pos (by rw [List.length_replicate]; omega) ?_
  exact n
theorem T2_one {x : Int} (h : x ≤ MT + 1) : T2 x 1 = x := by
  unfold T2
  rw [Int.mul_one]
  by_cases c : x > MT
  · rw [if_pos c]; omega
  · rw [if_neg c]
theorem both_ev (ord : Bool) {a b : Int} (a1 : 1 ≤ a) (a2 : a ≤ MT + 1) (b1 : 1 ≤ b) (b2 : b ≤ MT + 1) (S N : Nat) (hN : N ≤ 200) (hS : S ≤ N) : Ev (fun k => spec_brBoth.f k a b (S : Int) (N : Int) ord) (T2 (T2 a b) (if ord then pc N S else 1)) := by
  have t := T2_bd a b a1 b1
  unfold spec_brBoth.f
  refine ev_val (times_some a1 a2 b1 b2) ?_
  cases ord with
  | true =>
    refine ev_if_pos rfl (Ev.bind (brch_ev S N (by omega) hN) ?_)
    refine ev_val (times_some t.1 t.2 (pc_pos N S hS) (pc_bd N S).2) ?_
    exact Ev.now _
  | false =>
    refine ev_if_neg (by decide) ?_
    simp only [Bool.false_eq_true, if_false]
    rw [T2_one t.2]
    exact Ev.now _
theorem stepC_bd (ord : Bool) {q : Br} (i : OkB q) {c : Bool × Nat} (hc : c ∈ cuts q.1 q.2) (n : Int) (h0 : 0 ≤ n) : 0 ≤ stepC ord q n c ∧ stepC ord q n c ≤ MT + 1 := by
  have p := step_pos ord i hc
  have h3 : (0 : Int) ≤ MT + 1 := by decide
  unfold stepC
  rcases mn_cases (n + T2 (T2 (cnt ord (oneB q c)) (cnt ord (twoB q c))) (waysB ord q (oneB q c))) (MT + 1) with ⟨e, h⟩ | ⟨e, h⟩ <;> rw [e] <;> omega
theorem mem_cuts (v : Bool) (q : Br) (p : Nat) (h1 : 1 ≤ p) (h2 : p < (if v then q.1 else q.2)) : (v, p) ∈ cuts q.1 q.2 := by
  have hm : ∀ (e i p : Nat), i ≤ p → p < i + e → (v, p) ∈ cutsOf v i e := by
    intro e
    induction e with
    | zero => intro i p h1 h2; omega
    | succ e ih =>
      intro i p h1 h2
      by_cases hip : i = p
      · subst hip; exact List.mem_cons_self
      · exact List.mem_cons_of_mem _ (ih (i + 1) p (by omega) (by omega))
  cases v with
  | true => exact List.mem_append.2 (.inl (hm _ 1 p h1 (by simp only [if_true] at h2; omega)))
  | false => exact List.mem_append.2 (.inr (hm _ 1 p h1 (by simp only [Bool.false_eq_true, if_false] at h2; omega)))
section
variable {ord : Bool} {A B : Nat}
/-- The table's rows below W are told. -/
def TabC (ord : Bool) (A B W : Nat) (t : List (List Int)) : Prop := t.length = A + 1 ∧ ∀ w, 1 ≤ w → w < W → (rd_L1 t (w : Int)).length = B + 1 ∧ ∀ h, 1 ≤ h → h ≤ B → rd (rd_L1 t (w : Int)) (h : Int) = cnt ord (w, h)
/-- The row's places below H are told. -/
def RowC (ord : Bool) (B W H : Nat) (r : List Int) : Prop := r.length = B + 1 ∧ ∀ h, 1 ≤ h → h < H → rd r (h : Int) = cnt ord (W, h)
theorem nn (a b : Nat) (ha : a ≤ 12) (hb : b ≤ 12) : a * b ≤ 144 := Nat.mul_le_mul ha hb
theorem wmul {a b : Nat} (ha : a ≤ 12) (hb : b ≤ 12) : wrap64 ((a : Int) * (b : Int)) = ((a * b : Nat) : Int) := by
  have := nn a b ha hb
  rw [← Int.natCast_mul, w64 (by omega) (by omega)]
theorem wsub {n m : Nat} (h : m ≤ n) (hn : n ≤ 1000) : wrap64 ((n : Int) - (m : Int)) = ((n - m : Nat) : Int) := by rw [w64 (by omega) (by omega)]; omega
theorem wsubl {n : Nat} (m : Int) (k : Nat) (hm : m = (k : Int)) (h : k ≤ n) (hn : n ≤ 1000) : wrap64 ((n : Int) - m) = ((n - k : Nat) : Int) := by subst hm; exact wsub h hn
theorem wadd1 {n : Nat} (hn : n ≤ 1000) : wrap64 ((n : Int) + 1) = ((n + 1 : Nat) : Int) := by rw [w64 (by omega) (by omega)]; omega
theorem cnt_l3 (hA : A ≤ 12) (hB : B ≤ 12) {W H : Nat} (w1 : 1 ≤ W) (wA : W ≤ A) (h1 : 1 ≤ H) (hH : H ≤ B) {t : List (List Int)} {row : List Int} (hr : RowC ord B W H row) (r : Int) : ∀ (d p : Nat) (n : Int), 1 ≤ p → p + d = H → 0 ≤ n → n ≤ MT + 1 →
    Ev (fun k => spec_brCounts.l1 k ord t (W : Int) (row.set H ((cutsOf false p d).foldl (stepC ord (W, H)) n)) ((H + 1 : Nat) : Int) (A : Int) (B : Int)) r →
    Ev (fun k => spec_brCounts.l3 k ord t (W : Int) row (H : Int) n (p : Int) (A : Int) (B : Int)) r := by
  have ok : OkB (W, H) := ⟨w1, by show W ≤ 12; omega, h1, by show H ≤ 12; omega⟩
  intro d
  induction d with
  | zero =>
    intro p n hp hpd n0 n1 next
    have eh := Aside0.mk (wadd1 (n := H) (by omega))
    refine Ev.step (fun k => ?_) next
    simp only [spec_brCounts.l3, eh.out, Int.toNat_natCast]
    rw [if_neg (by omega), if_pos (by omega), if_pos (by rw [hr.1]; omega)]
    rfl
  | succ d ih =>
    intro p n hp hpd n0 n1 next
    have hc : (false, p) ∈ cuts (W, H).1 (W, H).2 := mem_cuts false (W, H) p hp (by simp only [Bool.false_eq_true, if_false]; omega)
    have k1 := ok.one hc
    have k2 := ok.two hc
    have b1 := cnt_bd ord k1.1
    have b2 := cnt_bd ord k2.1
    have sp := ar_split hc
    have ar2 := k2.1.area
    have ar1 := k1.1.area
    have arq := ok.area
    have sb := stepC_bd ord ok hc n n0
    have nx := ih (p + 1) (stepC ord (W, H) n (false, p)) (by omega) (by omega) sb.1 sb.2 next
    simp only [oneB, twoB, Bool.false_eq_true, if_false] at b1 b2 sp ar1 ar2
    simp only [arB] at sp ar1 ar2 arq
    have e1 := Aside0.mk (hr.2 p hp (by omega))
    have e2 := Aside0.mk (hr.2 (H - p) (by omega) (by omega))
    have e3 := Aside0.mk (wsub (n := H) (m := p) (by omega) (by omega))
    have e4 := Aside0.mk (show wrap64 ((wrap64 ((p : Int) * (W : Int))) - 1) = ((W * p - 1 : Nat) : Int) by rw [wmul (by omega) (by omega), Nat.mul_comm p W]; exact wsubl 1 1 rfl (by omega) (by omega))
    have e5 := Aside0.mk (show wrap64 ((wrap64 ((W : Int) * (H : Int))) - 2) = ((W * H - 2 : Nat) : Int) by rw [wmul (by omega) (by omega)]; exact wsubl 2 2 rfl (by omega) (by omega))
    have e6 := Aside0.mk (wadd1 (n := p) (by omega))
    have bt := both_ev ord b1.1 b1.2 b2.1 b2.2 (W * p - 1) (W * H - 2) (by omega) (by omega)
    refine Ev.step (fun k => by simp only [spec_brCounts.l3, e3.out, e4.out, e5.out, e6.out]; rw [if_pos (by omega), if_pos (by omega), if_pos (by rw [hr.1]; omega), if_pos (by omega), if_pos (by rw [hr.1]; omega), e1.out, e2.out]) (Ev.bind bt ?_)
    have es : stepC ord (W, H) n (false, p) = mn (n + T2 (T2 (cnt ord (W, p)) (cnt ord (W, H - p))) (if ord then pc (W * H - 2) (W * p - 1) else 1)) (MT + 1) := rfl
    have tb := (T2_bd (T2 (cnt ord (W, p)) (cnt ord (W, H - p))) (if ord then pc (W * H - 2) (W * p - 1) else 1) (T2_bd _ _ b1.1 b2.1).1 (by cases ord with | true => exact pc_pos _ _ (by omega) | false => simp))
    rw [es] at nx
    generalize T2 (T2 (cnt ord (W, p)) (cnt ord (W, H - p))) (if ord then pc (W * H - 2) (W * p - 1) else 1) = tt at nx tb ⊢
    refine ev_val (a := mn (n + tt) (MT + 1)) (by rw [w64 (by omega) (by unfold MT at n1 tb; omega)]; exact least_mn _ _) ?_
    exact nx
theorem cnt_l2 (hA : A ≤ 12) (hB : B ≤ 12) {W H : Nat} (w1 : 1 ≤ W) (wA : W ≤ A) (h1 : 1 ≤ H) (hH : H ≤ B) {t : List (List Int)} {row : List Int} (ht : TabC ord A B W t) (hr : RowC ord B W H row) (r : Int) : ∀ (d p : Nat) (n : Int), 1 ≤ p → p + d = W → 0 ≤ n → n ≤ MT + 1 →
    Ev (fun k => spec_brCounts.l1 k ord t (W : Int) (row.set H ((cutsOf false 1 (H - 1)).foldl (stepC ord (W, H)) ((cutsOf true p d).foldl (stepC ord (W, H)) n))) ((H + 1 : Nat) : Int) (A : Int) (B : Int)) r →
    Ev (fun k => spec_brCounts.l2 k ord t (W : Int) row (H : Int) n (p : Int) (A : Int) (B : Int)) r := by
  have ok : OkB (W, H) := ⟨w1, by show W ≤ 12; omega, h1, by show H ≤ 12; omega⟩
  intro d
  induction d with
  | zero =>
    intro p n hp hpd n0 n1 next
    refine Ev.step (fun k => ?_) (cnt_l3 hA hB w1 wA h1 hH hr r (H - 1) 1 n (Nat.le_refl _) (by omega) n0 n1 next)
    simp only [spec_brCounts.l2]
    rw [if_neg (by omega)]
    rfl
  | succ d ih =>
    intro p n hp hpd n0 n1 next
    have hc : (true, p) ∈ cuts (W, H).1 (W, H).2 := mem_cuts true (W, H) p hp (by simp only [if_true]; omega)
    have k1 := ok.one hc
    have k2 := ok.two hc
    have b1 := cnt_bd ord k1.1
    have b2 := cnt_bd ord k2.1
    have sp := ar_split hc
    have ar2 := k2.1.area
    have ar1 := k1.1.area
    have arq := ok.area
    have sb := stepC_bd ord ok hc n n0
    have nx := ih (p + 1) (stepC ord (W, H) n (true, p)) (by omega) (by omega) sb.1 sb.2 next
    simp only [oneB, twoB, if_true] at b1 b2 sp ar1 ar2
    simp only [arB] at sp ar1 ar2 arq
    have tp := ht.2 p hp (by omega)
    have tq := ht.2 (W - p) (by omega) (by omega)
    have e1 := Aside0.mk (tp.2 H h1 hH)
    have e2 := Aside0.mk (tq.2 H h1 hH)
    have l1 := Aside0.mk tp.1
    have l2 := Aside0.mk tq.1
    have e3 := Aside0.mk (wsub (n := W) (m := p) (by omega) (by omega))
    have e4 := Aside0.mk (show wrap64 ((wrap64 ((p : Int) * (H : Int))) - 1) = ((p * H - 1 : Nat) : Int) by rw [wmul (by omega) (by omega)]; exact wsubl 1 1 rfl (by omega) (by omega))
    have e5 := Aside0.mk (show wrap64 ((wrap64 ((W : Int) * (H : Int))) - 2) = ((W * H - 2 : Nat) : Int) by rw [wmul (by omega) (by omega)]; exact wsubl 2 2 rfl (by omega) (by omega))
    have e6 := Aside0.mk (wadd1 (n := p) (by omega))
    have bt := both_ev ord b1.1 b1.2 b2.1 b2.2 (p * H - 1) (W * H - 2) (by omega) (by omega)
    clear tp tq
    refine Ev.step (fun k => by simp only [spec_brCounts.l2, e3.out, e4.out, e5.out, e6.out]; rw [if_pos (by omega), if_pos (by omega), if_pos (by rw [ht.1]; omega), if_pos (by omega), if_pos (by rw [l1.out]; omega), if_pos (by omega), if_pos (by rw [ht.1]; omega), if_pos (by rw [l2.out]; omega), e1.out, e2.out]) (Ev.bind bt ?_)
    have es : stepC ord (W, H) n (true, p) = mn (n + T2 (T2 (cnt ord (p, H)) (cnt ord (W - p, H))) (if ord then pc (W * H - 2) (p * H - 1) else 1)) (MT + 1) := rfl
    have tb := (T2_bd (T2 (cnt ord (p, H)) (cnt ord (W - p, H))) (if ord then pc (W * H - 2) (p * H - 1) else 1) (T2_bd _ _ b1.1 b2.1).1 (by cases ord with | true => exact pc_pos _ _ (by omega) | false => simp))
    rw [es] at nx
    generalize T2 (T2 (cnt ord (p, H)) (cnt ord (W - p, H))) (if ord then pc (W * H - 2) (p * H - 1) else 1) = tt at nx tb ⊢
    refine ev_val (a := mn (n + tt) (MT + 1)) (by rw [w64 (by omega) (by unfold MT at n1 tb; omega)]; exact least_mn _ _) ?_
    exact nx
theorem RowC.set {W H : Nat} {row : List Int} (hr : RowC ord B W H row) (hH : H ≤ B) : RowC ord B W (H + 1) (row.set H (cnt ord (W, H))) := by
  refine ⟨by rw [List.length_set]; exact hr.1, fun h a1 a2 => ?_⟩
  rw [rd_lt _ h (by rw [List.length_set, hr.1]; omega), List.getElem_set]
  by_cases e : H = h
  · subst e; rw [if_pos rfl]
  · rw [if_neg e, ← rd_lt row h (by rw [hr.1]; omega)]
    exact hr.2 h a1 (by omega)
theorem rdL1_set (t : List (List Int)) (i j : Nat) (x : List Int) (hj : j < t.length) : rd_L1 (t.set i x) (j : Int) = if i = j then x else rd_L1 t (j : Int) := by
  unfold rd_L1
  rw [Int.toNat_natCast, List.getD_eq_getElem?_getD, List.getD_eq_getElem?_getD, List.getElem?_set]
  by_cases e : i = j
  · subst e
    rw [if_pos rfl, if_pos rfl, if_pos hj]
    rfl
  · rw [if_neg e, if_neg e]
theorem cnt_l1 (hA : A ≤ 12) (hB : B ≤ 12) {W : Nat} (w1 : 1 ≤ W) (wA : W ≤ A) {t : List (List Int)} (ht : TabC ord A B W t) (r : Int)
    (next : ∀ row, RowC ord B W (B + 1) row → Ev (fun k => spec_brCounts.l0 k ord (t.set W row) ((W + 1 : Nat) : Int) (A : Int) (B : Int)) r) : ∀ (d H : Nat) (row : List Int), 1 ≤ H → H + d = B + 1 → RowC ord B W H row →
    Ev (fun k => spec_brCounts.l1 k ord t (W : Int) row (H : Int) (A : Int) (B : Int)) r := by
  intro d
  induction d with
  | zero =>
    intro H row h1 hd hr
    obtain rfl : H = B + 1 := by omega
    have ew := Aside0.mk (wadd1 (n := W) (by omega))
    refine Ev.step (fun k => ?_) (next row hr)
    simp only [spec_brCounts.l1, ew.out, Int.toNat_natCast]
    rw [if_neg (by omega), if_pos (by omega), if_pos (by rw [ht.1]; omega)]
  | succ d ih =>
    intro H row h1 hd hr
    have ok : OkB (W, H) := ⟨w1, by show W ≤ 12; omega, h1, by show H ≤ 12; omega⟩
    have nx := ih (H + 1) (row.set H (cnt ord (W, H))) (by omega) (by omega) (hr.set (by omega))
    have em := Aside0.mk (wmul (a := W) (b := H) (by omega) (by omega))
    have go : ∀ n0 : Int, 0 ≤ n0 → n0 ≤ MT + 1 → (cuts W H).foldl (stepC ord (W, H)) n0 = cnt ord (W, H) → Ev (fun k => spec_brCounts.j2 k ord t (W : Int) row (H : Int) n0 (A : Int) (B : Int)) r := by
      intro n0 h0 h2 he
      rw [show cuts W H = cutsOf true 1 (W - 1) ++ cutsOf false 1 (H - 1) from rfl, List.foldl_append] at he
      refine Ev.step (fun k => ?_) (cnt_l2 hA hB w1 wA h1 (by omega) ht hr r (W - 1) 1 n0 (Nat.le_refl _) (by omega) h0 h2 (by rw [he]; exact nx))
      simp only [spec_brCounts.j2]
      rfl
    by_cases h1a : W * H = 1
    · have e := cnt_eq ord ok
      rw [if_pos (show arB (W, H) = 1 from h1a)] at e
      have hW : W = 1 := Nat.eq_one_of_mul_eq_one_right h1a
      have hH1 : H = 1 := Nat.eq_one_of_mul_eq_one_left h1a
      refine Ev.step (fun k => by simp only [spec_brCounts.l1, em.out]; rw [if_pos (by omega), if_pos (by rw [h1a]; rfl)]) (go 1 (by decide) (by decide) ?_)
      rw [e]
      subst hW hH1
      rfl
    · have e := cnt_eq ord ok
      rw [if_neg (show ¬ arB (W, H) = 1 from h1a)] at e
      refine Ev.step (fun k => by simp only [spec_brCounts.l1, em.out]; rw [if_pos (by omega), if_neg (by omega)]) (go 0 (by decide) (by decide) e.symm)
theorem cnt_l0 (hA : A ≤ 12) (hB : B ≤ 12) (hA1 : 1 ≤ A) (hB1 : 1 ≤ B) : ∀ (d W : Nat) (t : List (List Int)), 1 ≤ W → W + d = A + 1 → TabC ord A B W t → Ev (fun k => spec_brCounts.l0 k ord t (W : Int) (A : Int) (B : Int)) (cnt ord (A, B)) := by
  have eb := Aside0.mk (wadd1 (n := B) (by omega))
  intro d
  induction d with
  | zero =>
    intro W t w1 hd ht
    obtain rfl : W = A + 1 := by omega
    have ta := ht.2 A hA1 (by omega)
    refine Ev.step (f := fun _ => some (cnt ord (A, B))) (fun k => ?_) (Ev.now _)
    simp only [spec_brCounts.l0]
    rw [if_neg (by omega), if_pos (by omega), if_pos (by rw [ht.1]; omega), if_pos (by omega), if_pos (by rw [ta.1]; omega), ta.2 B hB1 (Nat.le_refl _)]
  | succ d ih =>
    intro W t w1 hd ht
    have l1 := cnt_l1 hA hB w1 (by omega) ht (cnt ord (A, B)) (fun row hr => ih (W + 1) (t.set W row) (by omega) (by omega) ⟨by rw [List.length_set]; exact ht.1, fun w a1 a2 => by
      rw [rdL1_set t W w row (by rw [ht.1]; omega)]
      by_cases e : W = w
      · subst e
        rw [if_pos rfl]
        exact ⟨hr.1, fun h b1 b2 => hr.2 h b1 (by omega)⟩
      · rw [if_neg e]
        exact ht.2 w a1 (by omega)⟩) B 1 (List.replicate (B + 1) 0) (Nat.le_refl _) (by omega) ⟨by rw [List.length_replicate], fun h a1 a2 => absurd a1 (by omega)⟩
    refine Ev.step (fun k => ?_) l1
    simp only [spec_brCounts.l0, eb.out, Int.toNat_natCast]
    rw [if_pos (by omega), if_pos (by omega), if_pos (by omega)]
    rfl
theorem counts_ev (hA : A ≤ 12) (hB : B ≤ 12) (hA1 : 1 ≤ A) (hB1 : 1 ≤ B) : Ev (fun k => spec_brCounts.f k (A : Int) (B : Int) ord) (cnt ord (A, B)) := by
  have ea := Aside0.mk (wadd1 (n := A) (by omega))
  have n := cnt_l0 (ord := ord) hA hB hA1 hB1 A 1 (List.replicate (A + 1) []) (Nat.le_refl _) (by omega) ⟨by rw [List.length_replicate], fun w a1 a2 => absurd a1 (by omega)⟩
  unfold spec_brCounts.f
  simp only [ea.out, Int.toNat_natCast]
  refine ev_if_pos (by omega) (ev_if_pos (by omega) ?_)
  exact n
end
end Go.Proofs.Ythlnpbdjblocfaa.Pure
