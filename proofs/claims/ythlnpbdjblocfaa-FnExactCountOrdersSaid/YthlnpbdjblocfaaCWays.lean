/- How many ways there are to break a bar, in plain numbers cut off above a bound; the program's product and choice on them. Conditions: a bar of sides 1 to 12. -/
import Derived.Test.YthlnpbdjblocfaaUCut
import Derived.Test.YthlnpbdjblocfaaPx63
import Derived.Test.YthlnpbdjblocfaaPx64
namespace Go.Proofs.Ythlnpbdjblocfaa.Pure
open Go Go.RowKit Go.Proofs.Ythlnpbdjblocfaa.P Go.Proofs.YthlnpbdjblocfaaW.PrintWords Go.Proofs.YthlnpbdjblocfaaW.PrintLast Go.Proofs.YthlnpbdjblocfaaW.PrintMore
set_option linter.unusedVariables false
abbrev MT : Int := 1000000000000000
/-- A product, cut off. -/
def T2 (a b : Int) : Int := if a * b > MT then MT + 1 else a * b
/-- How many sets of k of n things there are, cut off. -/
def pc : Nat → Nat → Int
  | _, 0 => 1
  | 0, _ + 1 => 0
  | n + 1, k + 1 => mn (pc n k + pc n (k + 1)) (MT + 1)
theorem mn_cases (a b : Int) : mn a b = a ∧ a ≤ b ∨ mn a b = b ∧ b ≤ a := by
  unfold mn
  by_cases h : b < a
  · rw [if_pos h]; exact .inr ⟨rfl, by omega⟩
  · rw [if_neg h]; exact .inl ⟨rfl, by omega⟩
theorem pc_zero (n : Nat) : pc n 0 = 1 := by cases n <;> rfl
theorem pc_big : ∀ n k, n < k → pc n k = 0
  | 0, 0, h => absurd h (by omega)
  | 0, k + 1, _ => rfl
  | n + 1, 0, h => absurd h (by omega)
  | n + 1, k + 1, h => by
    show mn (pc n k + pc n (k + 1)) (MT + 1) = 0
    rw [pc_big n k (by omega), pc_big n (k + 1) (by omega)]
    rfl
theorem pc_bd : ∀ n k, 0 ≤ pc n k ∧ pc n k ≤ MT + 1
  | 0, 0 => by decide
  | n + 1, 0 => by rw [pc_zero]; decide
  | 0, k + 1 => by show (0 : Int) ≤ 0 ∧ (0 : Int) ≤ MT + 1; decide
  | n + 1, k + 1 => by
    have h1 := pc_bd n k
    have h2 := pc_bd n (k + 1)
    show 0 ≤ mn (pc n k + pc n (k + 1)) (MT + 1) ∧ mn (pc n k + pc n (k + 1)) (MT + 1) ≤ MT + 1
    rcases mn_cases (pc n k + pc n (k + 1)) (MT + 1) with ⟨e, h⟩ | ⟨e, h⟩ <;> rw [e] <;> omega
theorem pc_pos : ∀ n k, k ≤ n → 1 ≤ pc n k
  | n, 0, _ => by rw [pc_zero]; decide
  | 0, k + 1, h => absurd h (by omega)
  | n + 1, k + 1, h => by
    have h1 := pc_pos n k (by omega)
    have h2 := pc_bd n (k + 1)
    have h3 : (1 : Int) ≤ MT + 1 := by decide
    show 1 ≤ mn (pc n k + pc n (k + 1)) (MT + 1)
    rcases mn_cases (pc n k + pc n (k + 1)) (MT + 1) with ⟨e, h⟩ | ⟨e, h⟩ <;> rw [e] <;> omega
theorem pc_self (n : Nat) : pc n n = 1 := by
  induction n with
  | zero => rfl
  | succ n ih =>
    show mn (pc n n + pc n (n + 1)) (MT + 1) = 1
    rw [ih, pc_big n (n + 1) (by omega)]
    rfl
theorem T2_bd (a b : Int) (ha : 1 ≤ a) (hb : 1 ≤ b) : 1 ≤ T2 a b ∧ T2 a b ≤ MT + 1 := by
  have : 1 * 1 ≤ a * b := Int.mul_le_mul ha hb (by decide) (by omega)
  unfold T2
  by_cases h : a * b > MT
  · rw [if_pos h]; decide
  · rw [if_neg h]; omega
theorem tdiv_lt {a b : Int} (hb : 1 ≤ b) (ha : 1 ≤ a) : a > wrap64 (Int.tdiv MT b) ↔ a * b > MT := by
  have h1 : (0 : Int) ≤ MT / b := Int.ediv_nonneg (by decide) (by omega)
  have h2 : MT / b ≤ MT := Int.ediv_le_self _ (by decide)
  rw [Int.tdiv_eq_ediv_of_nonneg (by decide), w64 (by omega) (by unfold MT at h2 ⊢; omega)]
  constructor
  · intro h
    exact (Int.ediv_lt_iff_lt_mul (by omega)).1 h
  · intro h
    exact (Int.ediv_lt_iff_lt_mul (by omega)).2 h
theorem product_end (x : List Int) (q : Int) (o : Int) : Ev (fun k => impl_product.l0 k MT o x q q) o := by
  refine Ev.step (f := fun _ => some o) (fun k => ?_) (Ev.now _)
  simp only [impl_product.l0]
  rw [if_neg (by omega)]
theorem product_step (l : List Int) (i : Nat) (hi : i < l.length) (hl : l.length ≤ 10) (o v : Int) (hv : l[i] = v) (h1 : 1 ≤ v) (h2 : v ≤ MT + 1) (ho : 1 ≤ o) (ho2 : o ≤ MT + 1) (r : Int)
    (big : o * v > MT → r = MT + 1) (small : ¬ o * v > MT → Ev (fun k => impl_product.l0 k MT (o * v) l (l.length : Int) ((i + 1 : Nat) : Int)) r) :
    Ev (fun k => impl_product.l0 k MT o l (l.length : Int) (i : Int)) r := by
  have hr : rd l (i : Int) = v := by rw [rd_lt l i hi, hv]
  have ht := tdiv_lt (a := o) h1 ho
  by_cases hb : o * v > MT
  · rw [big hb]
    refine Ev.step (f := fun _ => some (MT + 1)) (fun k => ?_) (Ev.now _)
    simp only [impl_product.l0, hr]
    rw [if_pos (by omega), if_pos (by omega), if_pos (by omega), if_pos (by omega), if_neg (by omega), if_pos (ht.2 hb), w64 (x := MT + 1) (by decide) (by decide)]
  · have n := small hb
    have hp : 0 ≤ o * v := Int.mul_nonneg (by omega) (by omega)
    refine Ev.step (fun k => ?_) n
    simp only [impl_product.l0, hr]
    rw [if_pos (by omega), if_pos (by omega), if_pos (by omega), if_pos (by omega), if_neg (by omega), if_neg (fun h => hb (ht.1 h)), w64 (x := o * v) (by omega) (by unfold MT at hb; omega), w64 (x := (i : Int) + 1) (by omega) (by omega)]
    rfl
theorem product_ev (a b c : Int) (a1 : 1 ≤ a) (a2 : a ≤ MT + 1) (b1 : 1 ≤ b) (b2 : b ≤ MT + 1) (c1 : 1 ≤ c) (c2 : c ≤ MT + 1) : Ev (fun k => impl_product.f k MT [a, b, c]) (T2 (T2 a b) c) := by
  have hab := T2_bd a b a1 b1
  have pab : 1 * 1 ≤ a * b := Int.mul_le_mul a1 b1 (by decide) (by omega)
  have hca : ∀ x : Int, x > MT → 1 ≤ c → x * c > MT := fun x hx hc => by
    have : x * 1 ≤ x * c := Int.mul_le_mul_of_nonneg_left hc (by unfold MT at hx; omega)
    omega
  have hbig : a > MT → a * b > MT := fun hx => by
    have : a * 1 ≤ a * b := Int.mul_le_mul_of_nonneg_left b1 (by omega)
    omega
  unfold impl_product.f
  refine product_step [a, b, c] 0 (by simp) (by simp) 1 a rfl a1 a2 (by decide) (by decide) _ (fun h => ?_) (fun h => ?_)
  · rw [Int.one_mul] at h
    have e1 : T2 a b = MT + 1 := by unfold T2; rw [if_pos (hbig h)]
    rw [e1]
    unfold T2
    rw [if_pos (hca _ (by omega) c1)]
  · rw [Int.one_mul]
    refine product_step [a, b, c] 1 (by simp) (by simp) a b rfl b1 b2 a1 a2 _ (fun h => ?_) (fun h => ?_)
    · have e1 : T2 a b = MT + 1 := by unfold T2; rw [if_pos h]
      rw [e1]
      unfold T2
      rw [if_pos (hca _ (by omega) c1)]
    · have e1 : T2 a b = a * b := by unfold T2; rw [if_neg h]
      rw [e1]
      refine product_step [a, b, c] 2 (by simp) (by simp) (a * b) c rfl c1 c2 (by omega) (by omega) _ (fun h2 => ?_) (fun h2 => ?_)
      · unfold T2; rw [if_pos h2]
      · have e2 : T2 (a * b) c = a * b * c := by unfold T2; rw [if_neg h2]
        rw [e2]
        exact product_end [a, b, c] _ _
/-- The row of the triangle. -/
def rowP (n : Nat) : List Int := (List.range (n + 1)).map fun k => pc n k
theorem rowP_len (n : Nat) : (rowP n).length = n + 1 := by unfold rowP; simp
theorem rowP_rd (n k : Nat) (h : k ≤ n) : rd (rowP n) (k : Int) = pc n k := by
  rw [rd_lt _ k (by rw [rowP_len]; omega)]
  unfold rowP
  simp
/-- The next row, as far as it is told. -/
def nextP (n d : Nat) : List Int := (List.range (d + 1)).map fun k => pc (n + 1) k
theorem nextP_len (n d : Nat) : (nextP n d).length = d + 1 := by unfold nextP; simp
theorem nextP_succ (n d : Nat) : nextP n (d + 1) = nextP n d ++ [pc (n + 1) (d + 1)] := by unfold nextP; rw [List.range_succ, List.map_append]; rfl
theorem choose_l1 (x2 : Int) (N n : Nat) (hN : N ≤ 200) (hn : n < N) (r : Int) (next : Ev (fun k => impl_choose.l0 k MT x2 (rowP (n + 1)) (N : Int) ((n + 1 : Nat) : Int)) r) : ∀ (d i : Nat), i + d = n + 1 → 1 ≤ i →
    Ev (fun k => impl_choose.l1 k MT x2 (rowP n) (nextP n (i - 1)) (i : Int) (N : Int) (n : Int)) r := by
  intro d
  induction d with
  | zero =>
    intro i hi h1
    obtain rfl : i = n + 1 := by omega
    refine Ev.step (fun k => ?_) next
    simp only [impl_choose.l1]
    have e2 : nextP n (n + 1 - 1) ++ [1] = rowP (n + 1) := by
      rw [show n + 1 - 1 = n from rfl]
      have := nextP_succ n n
      rw [pc_self] at this
      rw [← this]
      rfl
    rw [if_neg (by rw [rowP_len]; omega), if_pos (by rw [nextP_len]; omega), e2, w64 (by omega) (by omega)]
    rfl
  | succ d ih =>
    intro i hi h1
    have e0 : wrap64 ((i : Int) - 1) = ((i - 1 : Nat) : Int) := by rw [w64 (by omega) (by omega)]; omega
    have b1 := pc_bd n (i - 1)
    have b2 := pc_bd n i
    have n1 := ih (i + 1) (by omega) (by omega)
    rw [show i + 1 - 1 = (i - 1) + 1 by omega, nextP_succ] at n1
    have e3 : mn (wrap64 ((rd (rowP n) ((i - 1 : Nat) : Int)) + (rd (rowP n) (i : Int)))) (wrap64 (MT + 1)) = pc (n + 1) ((i - 1) + 1) := by
      rw [rowP_rd n (i - 1) (by clear e0; omega), rowP_rd n i (by clear e0; omega), w64 (x := pc n (i - 1) + pc n i) (by clear e0; omega) (by clear e0; unfold MT at b1 b2; omega), w64 (x := MT + 1) (by decide) (by decide)]
      show _ = mn (pc n (i - 1) + pc n ((i - 1) + 1)) (MT + 1)
      rw [show i - 1 + 1 = i by clear e0; omega]
    refine Ev.step (fun k => ?_) n1
    simp only [impl_choose.l1, e0, e3]
    clear e0 e3
    rw [if_pos (by rw [rowP_len]; omega), if_pos (by omega), if_pos (by rw [rowP_len]; omega), if_pos (by omega), if_pos (by rw [nextP_len]; omega), w64 (by omega) (by omega)]
    rfl
theorem choose_l0 (x2 N : Nat) (hN : N ≤ 200) (hx : x2 ≤ N) : ∀ (d n : Nat), n + d = N → Ev (fun k => impl_choose.l0 k MT (x2 : Int) (rowP n) (N : Int) (n : Int)) (pc N x2) := by
  intro d
  induction d with
  | zero =>
    intro n hn
    obtain rfl : n = N := by omega
    refine Ev.step (f := fun _ => some (pc n x2)) (fun k => ?_) (Ev.now _)
    simp only [impl_choose.l0]
    rw [if_neg (by omega), if_pos (by omega), if_pos (by rw [rowP_len]; omega), rowP_rd n x2 hx]
  | succ d ih =>
    intro n hn
    have l1 := choose_l1 (x2 : Int) N n hN (by omega) _ (ih (n + 1) (by omega)) n 1 (by omega) (Nat.le_refl _)
    refine Ev.step (fun k => ?_) l1
    simp only [impl_choose.l0]
    rw [if_pos (by omega)]
    have e : nextP n (1 - 1) = [1] := by unfold nextP; simp [pc_zero]
    rw [e]
    rfl
theorem choose_ev (N x2 : Nat) (hN : N ≤ 200) (hx : x2 ≤ N) : Ev (fun k => impl_choose.f k MT (N : Int) (x2 : Int)) (pc N x2) := by
  have := choose_l0 x2 N hN hx N 0 (by omega)
  unfold impl_choose.f
  have e : rowP 0 = [1] := by unfold rowP; simp [pc_zero]
  rw [e] at this
  exact this
/-- In how many ways the breaks of both parts can be mixed. -/
def waysB (ord : Bool) (q q1 : Br) : Int := if ord then pc (arB q - 2) (arB q1 - 1) else 1
def cntF (ord : Bool) : Nat → Br → Int
  | 0, _ => 1
  | k + 1, q => if arB q = 1 then 1 else (cuts q.1 q.2).foldl (fun all c => mn (all + T2 (T2 (cntF ord k (oneB q c)) (cntF ord k (twoB q c))) (waysB ord q (oneB q c))) (MT + 1)) 0
theorem cntF_fuel (ord : Bool) : ∀ (k k' : Nat) (q : Br), OkB q → szB q ≤ k → szB q ≤ k' → cntF ord k q = cntF ord k' q := by
  intro k
  induction k with
  | zero => intro k' q i hk; exact absurd i.1 (by unfold szB at hk; omega)
  | succ k ih =>
    intro k' q i hk hk'
    cases k' with
    | zero => exact absurd i.1 (by unfold szB at hk'; omega)
    | succ k' =>
      simp only [cntF]
      by_cases c : arB q = 1
      · rw [if_pos c, if_pos c]
      · rw [if_neg c, if_neg c]
        refine foldl_congr_mem _ _ (fun b c hc => ?_)
        have h1 := i.one hc
        have h2 := i.two hc
        rw [ih k' _ h1.1 (by omega) (by omega), ih k' _ h2.1 (by omega) (by omega)]
/-- How many ways there are, cut off. -/
def cnt (ord : Bool) (q : Br) : Int := cntF ord 30 q
def stepC (ord : Bool) (q : Br) (all : Int) (c : Bool × Nat) : Int := mn (all + T2 (T2 (cnt ord (oneB q c)) (cnt ord (twoB q c))) (waysB ord q (oneB q c))) (MT + 1)
theorem cnt_eq (ord : Bool) {q : Br} (i : OkB q) : cnt ord q = if arB q = 1 then 1 else (cuts q.1 q.2).foldl (stepC ord q) 0 := by
  have hs : szB q ≤ 24 := by unfold szB; unfold OkB at i; omega
  unfold cnt
  rw [cntF_fuel ord 30 31 q i (by omega) (by omega)]
  rw [cntF]
  rfl
theorem waysB_cut (ord : Bool) {q : Br} (i : OkB q) {c : Bool × Nat} (hc : c ∈ cuts q.1 q.2) : 1 ≤ waysB ord q (oneB q c) ∧ waysB ord q (oneB q c) ≤ MT + 1 := by
  have s := ar_split hc
  have a1 := (i.one hc).1.area
  have a2 := (i.two hc).1.area
  cases ord with
  | true => exact ⟨pc_pos _ _ (by omega), (pc_bd _ _).2⟩
  | false => exact ⟨by show (1 : Int) ≤ 1; omega, by show (1 : Int) ≤ MT + 1; decide⟩
theorem fold_bd (ord : Bool) (q : Br) : ∀ (cs : List (Bool × Nat)), (∀ c ∈ cs, 1 ≤ T2 (T2 (cnt ord (oneB q c)) (cnt ord (twoB q c))) (waysB ord q (oneB q c))) → ∀ b : Int, 0 ≤ b → b ≤ MT + 1 → 0 ≤ cs.foldl (stepC ord q) b ∧ cs.foldl (stepC ord q) b ≤ MT + 1 ∧ (1 ≤ b ∨ cs ≠ [] → 1 ≤ cs.foldl (stepC ord q) b)
  | [], _, b, h0, h1 => ⟨h0, h1, fun h => by rcases h with h | h; exact h; exact absurd rfl h⟩
  | c :: cs, h, b, h0, h1 => by
    have hc := h c (by simp)
    have hs : 1 ≤ stepC ord q b c ∧ stepC ord q b c ≤ MT + 1 := by
      unfold stepC
      rcases mn_cases (b + T2 (T2 (cnt ord (oneB q c)) (cnt ord (twoB q c))) (waysB ord q (oneB q c))) (MT + 1) with ⟨e, h⟩ | ⟨e, h⟩ <;> rw [e]
      · omega
      · exact ⟨by decide, by omega⟩
    have r := fold_bd ord q cs (fun c' hc' => h c' (by simp [hc'])) (stepC ord q b c) (by omega) hs.2
    rw [List.foldl_cons]
    exact ⟨r.1, r.2.1, fun _ => r.2.2 (.inl hs.1)⟩
theorem cuts_ne {q : Br} (i : OkB q) (h : ¬ arB q = 1) : cuts q.1 q.2 ≠ [] := by
  intro hc
  have := cuts_len q.1 q.2
  rw [hc, List.length_nil] at this
  obtain ⟨a, b⟩ := q
  simp only [OkB] at i
  simp only at this
  obtain rfl : a = 1 := by omega
  obtain rfl : b = 1 := by omega
  exact h rfl
theorem cnt_bd' (ord : Bool) : ∀ (s : Nat) (q : Br), OkB q → szB q ≤ s → 1 ≤ cnt ord q ∧ cnt ord q ≤ MT + 1 := by
  intro s
  induction s with
  | zero => intro q i hs; exact absurd i.1 (by unfold szB at hs; omega)
  | succ s ih =>
    intro q i hs
    rw [cnt_eq ord i]
    by_cases c : arB q = 1
    · rw [if_pos c]; decide
    · rw [if_neg c]
      have f := fold_bd ord q (cuts q.1 q.2) (fun c hc => by
        have h1 := i.one hc
        have h2 := i.two hc
        have b1 := ih _ h1.1 (by omega)
        have b2 := ih _ h2.1 (by omega)
        have w := waysB_cut ord i hc
        exact (T2_bd _ _ (T2_bd _ _ b1.1 b2.1).1 w.1).1) 0 (by decide) (by decide)
      exact ⟨f.2.2 (.inr (cuts_ne i c)), f.2.1⟩
theorem cnt_bd (ord : Bool) {q : Br} (i : OkB q) : 1 ≤ cnt ord q ∧ cnt ord q ≤ MT + 1 := cnt_bd' ord _ q i (Nat.le_refl _)
theorem step_pos (ord : Bool) {q : Br} (i : OkB q) {c : Bool × Nat} (hc : c ∈ cuts q.1 q.2) : 1 ≤ T2 (T2 (cnt ord (oneB q c)) (cnt ord (twoB q c))) (waysB ord q (oneB q c)) :=
  (T2_bd _ _ (T2_bd _ _ (cnt_bd ord (i.one hc).1).1 (cnt_bd ord (i.two hc).1).1).1 (waysB_cut ord i hc).1).1
def cntUp (ord : Bool) (q : Br) (cs : List (Bool × Nat)) (n : Nat) : Int := (cs.take n).foldl (stepC ord q) 0
theorem cntUp_succ (ord : Bool) (q : Br) (cs : List (Bool × Nat)) (n : Nat) (h : n < cs.length) : cntUp ord q cs (n + 1) = mn (cntUp ord q cs n + T2 (T2 (cnt ord (oneB q cs[n])) (cnt ord (twoB q cs[n]))) (waysB ord q (oneB q cs[n]))) (MT + 1) := by
  unfold cntUp
  rw [← List.take_append_getElem h, List.foldl_append]
  rfl
theorem cntUp_bd (ord : Bool) {q : Br} (i : OkB q) {cs : List (Bool × Nat)} (hcs : cuts q.1 q.2 = cs) (n : Nat) : 0 ≤ cntUp ord q cs n ∧ cntUp ord q cs n ≤ MT + 1 := by
  subst hcs
  have f := fold_bd ord q ((cuts q.1 q.2).take n) (fun c hc => step_pos ord i (List.mem_of_mem_take hc)) 0 (by decide) (by decide)
  exact ⟨f.1, f.2.1⟩
theorem choose_cut {q q1 : Br} (i : OkB q) (i1 : OkB q1) (h1 : ¬ arB q = 1) (hle : arB q1 < arB q) {wy : Int} (hw : waysB true q q1 = wy) :
    ∃ k, impl_choose.f k MT (wrap64 (((arB q : Nat) : Int) - 2)) (wrap64 (((arB q1 : Nat) : Int) - 1)) = some wy := by
  have a := i.area
  have a1 := i1.area
  have e1 : wrap64 (((arB q : Nat) : Int) - 2) = ((arB q - 2 : Nat) : Int) := by rw [w64 (by omega) (by omega)]; omega
  have e2 : wrap64 (((arB q1 : Nat) : Int) - 1) = ((arB q1 - 1 : Nat) : Int) := by clear e1; rw [w64 (by omega) (by omega)]; omega
  have c := choose_ev (arB q - 2) (arB q1 - 1) (by clear e1 e2; omega) (by clear e1 e2; omega)
  obtain ⟨k, hk⟩ := c
  refine ⟨k, ?_⟩
  rw [e1, e2, ← hw]
  exact hk k (Nat.le_refl _)
end Go.Proofs.Ythlnpbdjblocfaa.Pure
