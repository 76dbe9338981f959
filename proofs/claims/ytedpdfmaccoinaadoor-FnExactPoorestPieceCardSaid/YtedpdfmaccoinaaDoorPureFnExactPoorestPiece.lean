/- The most that the poorest of sharers can have by pieces: the program's and the reference's are one, for all lists of texts and numbers. -/
import Derived.Test.YtedpdfmaccoinaaDoorOPoorC
import Derived.Test.YtedpdfmaccoinaaDoorPx56
import Derived.Test.YtedpdfmaccoinaaDoorPx58
namespace Go.Proofs.YtedpdfmaccoinaaDoor.Pure
open Go.RowKit Go.Proofs.YtedpdfmaccoinaaDoor.P Go.Proofs.YtedpdfmaccoinaaDoorW.PrintWords Go.Proofs.YtedpdfmaccoinaaDoorW.PrintLast Go.Proofs.YtedpdfmaccoinaaDoorW.PrintMore
theorem area_leR {w h : Nat} (hw : w ≤ 8) (hh : h ≤ 8) {q : Pt} (i : Inn w h q) : 1 ≤ area q ∧ area q ≤ 64 := by
  refine ⟨Nat.mul_pos i.1 i.2.1, ?_⟩
  have := Nat.mul_le_mul (show q.2.2.1 ≤ 8 by have := i.2.2.1; omega) (show q.2.2.2 ≤ 8 by have := i.2.2.2; omega)
  exact this
theorem mx_le (a b x : Int) : mx a b ≤ x ↔ a ≤ x ∧ b ≤ x := by
  unfold mx
  by_cases h : a < b
  · rw [if_pos h]; omega
  · rw [if_neg h]; omega
theorem foldl_le {α : Type} (F : Int → α → Int) (P : α → Prop) (x : Int) : ∀ (l : List α), (∀ b y, y ∈ l → (F b y ≤ x ↔ b ≤ x ∧ P y)) → ∀ b, l.foldl F b ≤ x ↔ b ≤ x ∧ ∀ y ∈ l, P y
  | [], _, b => by simp
  | y :: l, h, b => by
    rw [List.foldl_cons, foldl_le F P x l (fun b z hz => h b z (by simp [hz])) (F b y), h b y (by simp)]
    simp only [List.mem_cons, forall_eq_or_imp]
    exact and_assoc
theorem eq_of_le {a b : Int} (h : ∀ x, a ≤ x ↔ b ≤ x) : a = b := by
  have h1 := (h b).2 (Int.le_refl _)
  have h2 := (h a).1 (Int.le_refl _)
  omega
def valP (l : List ByteArray) (q : Pt) (m : Nat) (c : Bool × Nat) (j : Nat) : Int := mn (poor l (oneP q c) j) (poor l (twoP q c) (m - j))
theorem poorIn_le (l : List ByteArray) (q : Pt) (m : Nat) (c : Bool × Nat) (x : Int) (b : Int) : ∀ n, poorIn (poor l) q m c b n ≤ x ↔ b ≤ x ∧ ∀ j, j < n → valP l q m c (j + 1) ≤ x
  | 0 => by simp [poorIn]
  | n + 1 => by
    rw [show poorIn (poor l) q m c b (n + 1) = mx (poorIn (poor l) q m c b n) (valP l q m c (n + 1)) from rfl, mx_le, poorIn_le l q m c x b n]
    constructor
    · rintro ⟨⟨h1, h2⟩, h3⟩
      refine ⟨h1, fun j hj => ?_⟩
      by_cases e : j = n
      · subst e; exact h3
      · exact h2 j (by omega)
    · rintro ⟨h1, h2⟩
      exact ⟨⟨h1, fun j hj => h2 j (by omega)⟩, h2 n (by omega)⟩
section
variable {l : List ByteArray} {w : Nat}
theorem poor_le (h : Nuts l w) {q : Pt} (i : Inn w l.length q) {m : Nat} (hm : ¬ m = 1) (x : Int) : poor l q m ≤ x ↔ -1 ≤ x ∧ ∀ c ∈ cuts q.2.2.1 q.2.2.2, ∀ j, j < m - 1 → valP l q m c (j + 1) ≤ x := by
  rw [poor_eq l h.wide8 h.rows8 i m, if_neg hm]
  exact foldl_le _ (fun c => ∀ j, j < m - 1 → valP l q m c (j + 1) ≤ x) x _ (fun b c _ => poorIn_le l q m c x b (m - 1)) (-1)
theorem poor_ge (h : Nuts l w) {q : Pt} (i : Inn w l.length q) (m : Nat) : -1 ≤ poor l q m := by
  by_cases hm : m = 1
  · rw [poor_eq l h.wide8 h.rows8 i m, if_pos hm]
    have := (partSum_bd h q.1 q.2.2.1 i.2.2.1 q.2.2.2 q.2.1 i.2.2.2).1
    omega
  · exact ((poor_le h i hm _).1 (Int.le_refl _)).1
theorem mn_le_left (a b : Int) : mn a b ≤ a := by
  unfold mn
  by_cases h : b < a
  · rw [if_pos h]; omega
  · rw [if_neg h]; omega
theorem mn_le_right (a b : Int) : mn a b ≤ b := by
  unfold mn
  by_cases h : b < a
  · rw [if_pos h]; omega
  · rw [if_neg h]; omega
theorem area_split {q : Pt} {c : Bool × Nat} (hc : c ∈ cuts q.2.2.1 q.2.2.2) : area (oneP q c) + area (twoP q c) = area q := by
  have m := cuts_mem _ _ _ hc
  obtain ⟨x, y, a, b⟩ := q
  obtain ⟨v, p⟩ := c
  cases v with
  | true =>
    simp only [if_true] at m
    simp only [area, oneP, twoP, if_true]
    rw [← Nat.add_mul, show p + (a - p) = a by omega]
  | false =>
    simp only [Bool.false_eq_true, if_false] at m
    simp only [area, oneP, twoP, Bool.false_eq_true, if_false]
    rw [← Nat.mul_add, show p + (b - p) = b by omega]
theorem poor_none (h : Nuts l w) : ∀ (s : Nat) (q : Pt) (m : Nat), Inn w l.length q → siz q ≤ s → area q < m → poor l q m = -1 := by
  intro s
  induction s with
  | zero => intro q m i hs; exact absurd i.1 (by unfold siz at hs; omega)
  | succ s ih =>
    intro q m i hs ha
    have a1 := (area_leR h.wide8 h.rows8 i).1
    have hm : ¬ m = 1 := by omega
    have hle : poor l q m ≤ -1 := by
      refine (poor_le h i hm _).2 ⟨Int.le_refl _, fun c hc j hj => ?_⟩
      have i1 := i.one hc
      have i2 := i.two hc
      have sp := area_split hc
      by_cases h1 : area (oneP q c) < j + 1
      · have := ih (oneP q c) (j + 1) i1.1 (by omega) h1
        unfold valP
        rw [this]
        exact mn_le_left _ _
      · have := ih (twoP q c) (m - (j + 1)) i2.1 (by omega) (by omega)
        unfold valP
        rw [this]
        exact mn_le_right _ _
    have := poor_ge h i m
    omega
def stepP (l : List ByteArray) (q : Pt) (m j : Nat) (b : Int) (c : Bool × Nat) : Int := mx b (valP l q m c j)
def iterP (l : List ByteArray) (q : Pt) (m : Nat) : Int → Nat → Nat → Int
  | b, _, 0 => b
  | b, j, d + 1 => iterP l q m ((cuts q.2.2.1 q.2.2.2).foldl (stepP l q m j) b) (j + 1) d
theorem iterP_le (q : Pt) (m : Nat) (x : Int) : ∀ (d j : Nat) (b : Int), iterP l q m b j d ≤ x ↔ b ≤ x ∧ ∀ e, j ≤ e → e < j + d → ∀ c ∈ cuts q.2.2.1 q.2.2.2, valP l q m c e ≤ x := by
  intro d
  induction d with
  | zero => intro j b; simp only [iterP]; exact ⟨fun h => ⟨h, fun e h1 h2 => absurd h1 (by omega)⟩, fun h => h.1⟩
  | succ d ih =>
    intro j b
    rw [show iterP l q m b j (d + 1) = iterP l q m ((cuts q.2.2.1 q.2.2.2).foldl (stepP l q m j) b) (j + 1) d from rfl, ih, foldl_le (stepP l q m j) (fun c => valP l q m c j ≤ x) x _ (fun b c _ => mx_le _ _ _)]
    constructor
    · rintro ⟨⟨h1, h2⟩, h3⟩
      refine ⟨h1, fun e e1 e2 c hc => ?_⟩
      by_cases he : e = j
      · subst he; exact h2 c hc
      · exact h3 e (by omega) (by omega) c hc
    · rintro ⟨h1, h2⟩
      exact ⟨⟨h1, fun c hc => h2 j (Nat.le_refl _) (by omega) c hc⟩, fun e e1 e2 c hc => h2 e (by omega) (by omega) c hc⟩
theorem iterP_poor (h : Nuts l w) {q : Pt} (i : Inn w l.length q) {m : Nat} (hm : ¬ m = 1) : iterP l q m (-1) 1 (m - 1) = poor l q m := by
  refine eq_of_le (fun x => ?_)
  rw [iterP_le, poor_le h i hm]
  constructor
  · rintro ⟨h1, h2⟩
    exact ⟨h1, fun c hc j hj => h2 (j + 1) (by omega) (by omega) c hc⟩
  · rintro ⟨h1, h2⟩
    refine ⟨h1, fun e e1 e2 c hc => ?_⟩
    have := h2 c hc (e - 1) (by omega)
    rwa [show e - 1 + 1 = e by omega] at this
/-- What a call of the reference comes to. -/
def Says (l : List ByteArray) (q : Pt) (m : Nat) : Prop := Ev (fun k => spec_ntPiece.f k l (q.1 : Int) (q.2.1 : Int) ((q.1 + q.2.2.1 : Nat) : Int) ((q.2.1 + q.2.2.2 : Nat) : Int) (m : Int)) (poor l q m)
theorem least_mn (a b : Int) : spec_l1Least.f a b = some (mn a b) := by
  unfold spec_l1Least.f mn
  by_cases h : a < b
  · rw [if_pos h, if_neg (by omega)]
  · rw [if_neg h]
    by_cases h2 : b < a
    · rw [if_pos h2]
    · rw [if_neg h2, show a = b by omega]
theorem most_mx (a b : Int) : spec_l1Most.f a b = some (mx a b) := by
  unfold spec_l1Most.f mx
  by_cases h : a > b
  · rw [if_pos h, if_neg (by omega)]
  · rw [if_neg h]
    by_cases h2 : a < b
    · rw [if_pos h2]
    · rw [if_neg h2, show a = b by omega]
theorem stepP_skip (q : Pt) (m j : Nat) (b : Int) (c : Bool × Nat) (hle : ¬ poor l (oneP q c) j > b) : stepP l q m j b c = b := by
  have := mn_le_left (poor l (oneP q c) j) (poor l (twoP q c) (m - j))
  unfold stepP valP mx
  rw [if_neg (by omega)]
theorem piece_l2 (h : Nuts l w) {q : Pt} (i : Inn w l.length q) {m j : Nat} (hj : 1 ≤ j) (hjm : j < m) (hm : m ≤ 5) (ih : ∀ q' m', Inn w l.length q' → siz q' < siz q → 1 ≤ m' → m' ≤ 5 → Says l q' m') (r : Int) : ∀ (d p : Nat) (b : Int), 1 ≤ p → p + d = q.2.2.2 →
    Ev (fun k => spec_ntPiece.l0 k l (q.1 : Int) (q.2.1 : Int) ((q.1 + q.2.2.1 : Nat) : Int) ((q.2.1 + q.2.2.2 : Nat) : Int) (m : Int) ((cutsOf false p d).foldl (stepP l q m j) b) ((j + 1 : Nat) : Int)) r →
    Ev (fun k => spec_ntPiece.l2 k l (q.1 : Int) (q.2.1 : Int) ((q.1 + q.2.2.1 : Nat) : Int) ((q.2.1 + q.2.2.2 : Nat) : Int) (m : Int) b (j : Int) ((q.2.1 + p : Nat) : Int)) r := by
  have ejw := Aside0.mk (show wrap64 ((j : Int) + 1) = ((j + 1 : Nat) : Int) by rw [w64 (by omega) (by omega)]; omega)
  have emj := Aside0.mk (show wrap64 ((m : Int) - (j : Int)) = ((m - j : Nat) : Int) by rw [w64 (by omega) (by omega)]; omega)
  have l8 := h.rows8
  intro d
  induction d with
  | zero =>
    intro p b hp hpd next
    refine Ev.step (fun k => ?_) next
    simp only [spec_ntPiece.l2, ejw.out]
    rw [if_neg (by omega)]
    rfl
  | succ d ihd =>
    intro p b hp hpd next
    have hlt : ((q.2.1 + p : Nat) : Int) < ((q.2.1 + q.2.2.2 : Nat) : Int) := by omega
    have hc : (false, p) ∈ cuts q.2.2.1 q.2.2.2 := List.mem_append.2 (.inr (by
      have : ∀ (e i p : Nat), i ≤ p → p < i + e → (false, p) ∈ cutsOf false i e := by
        intro e
        induction e with
        | zero => intro i p h1 h2; omega
        | succ e ih => intro i p h1 h2
                       by_cases hip : i = p
                       · subst hip; exact List.mem_cons_self
                       · exact List.mem_cons_of_mem _ (ih (i + 1) p (by omega) (by omega))
      exact this _ 1 p hp (by omega)))
    have i1 := i.one hc
    have i2 := i.two hc
    have s1 := ih _ j i1.1 i1.2 hj (by omega)
    have s2 := ih _ (m - j) i2.1 i2.2 (by omega) (by omega)
    unfold Says at s1 s2
    obtain ⟨u1, hu1⟩ : ∃ u, poor l (oneP q (false, p)) j = u := ⟨_, rfl⟩
    obtain ⟨u2, hu2⟩ : ∃ u, poor l (twoP q (false, p)) (m - j) = u := ⟨_, rfl⟩
    rw [hu1] at s1
    rw [hu2] at s2
    simp only [oneP, twoP, Bool.false_eq_true, if_false] at s1 s2
    rw [show q.2.1 + p + (q.2.2.2 - p) = q.2.1 + q.2.2.2 by omega] at s2
    have epw := Aside0.mk (show wrap64 (((q.2.1 + p : Nat) : Int) + 1) = ((q.2.1 + (p + 1) : Nat) : Int) by have := i.2.2.2; rw [w64 (by omega) (by omega)]; omega)
    have n := ihd (p + 1) (stepP l q m j b (false, p)) (by omega) (by omega) next
    refine Ev.step (fun k => by simp only [spec_ntPiece.l2, epw.out, emj.out]; rw [if_pos hlt]) (Ev.bind s1 ?_)
    have e1 : stepP l q m j b (false, p) = mx b (mn u1 u2) := by unfold stepP valP; rw [hu1, hu2]
    by_cases hb : u1 > b
    · rw [e1] at n
      refine ev_if_pos hb (Ev.bind s2 ?_)
      refine ev_val (a := mn u1 u2) (least_mn u1 u2) ?_
      refine ev_val (a := mx b (mn u1 u2)) (most_mx b (mn u1 u2)) ?_
      exact n
    · rw [stepP_skip q m j b (false, p) (by rw [hu1]; exact hb)] at n
      exact ev_if_neg hb n
theorem piece_l1 (h : Nuts l w) {q : Pt} (i : Inn w l.length q) {m j : Nat} (hj : 1 ≤ j) (hjm : j < m) (hm : m ≤ 5) (ih : ∀ q' m', Inn w l.length q' → siz q' < siz q → 1 ≤ m' → m' ≤ 5 → Says l q' m') (r : Int) : ∀ (d p : Nat) (b : Int), 1 ≤ p → p + d = q.2.2.1 →
    Ev (fun k => spec_ntPiece.l0 k l (q.1 : Int) (q.2.1 : Int) ((q.1 + q.2.2.1 : Nat) : Int) ((q.2.1 + q.2.2.2 : Nat) : Int) (m : Int) ((cutsOf false 1 (q.2.2.2 - 1)).foldl (stepP l q m j) ((cutsOf true p d).foldl (stepP l q m j) b)) ((j + 1 : Nat) : Int)) r →
    Ev (fun k => spec_ntPiece.l1 k l (q.1 : Int) (q.2.1 : Int) ((q.1 + q.2.2.1 : Nat) : Int) ((q.2.1 + q.2.2.2 : Nat) : Int) (m : Int) b (j : Int) ((q.1 + p : Nat) : Int)) r := by
  have emj := Aside0.mk (show wrap64 ((m : Int) - (j : Int)) = ((m - j : Nat) : Int) by rw [w64 (by omega) (by omega)]; omega)
  have h8 := h.wide8
  have l8 := h.rows8
  have eyw := Aside0.mk (show wrap64 ((q.2.1 : Int) + 1) = ((q.2.1 + 1 : Nat) : Int) by have := i.2.2.2; rw [w64 (by omega) (by omega)]; omega)
  intro d
  induction d with
  | zero =>
    intro p b hp hpd next
    refine Ev.step (fun k => ?_) (piece_l2 h i hj hjm hm ih r (q.2.2.2 - 1) 1 b (Nat.le_refl _) (by have := i.2.1; omega) next)
    simp only [spec_ntPiece.l1, eyw.out]
    rw [if_neg (by omega)]
  | succ d ihd =>
    intro p b hp hpd next
    have hlt : ((q.1 + p : Nat) : Int) < ((q.1 + q.2.2.1 : Nat) : Int) := by omega
    have hc : (true, p) ∈ cuts q.2.2.1 q.2.2.2 := List.mem_append.2 (.inl (by
      have : ∀ (e i p : Nat), i ≤ p → p < i + e → (true, p) ∈ cutsOf true i e := by
        intro e
        induction e with
        | zero => intro i p h1 h2; omega
        | succ e ih => intro i p h1 h2
                       by_cases hip : i = p
                       · subst hip; exact List.mem_cons_self
                       · exact List.mem_cons_of_mem _ (ih (i + 1) p (by omega) (by omega))
      exact this _ 1 p hp (by omega)))
    have i1 := i.one hc
    have i2 := i.two hc
    have s1 := ih _ j i1.1 i1.2 hj (by omega)
    have s2 := ih _ (m - j) i2.1 i2.2 (by omega) (by omega)
    unfold Says at s1 s2
    obtain ⟨u1, hu1⟩ : ∃ u, poor l (oneP q (true, p)) j = u := ⟨_, rfl⟩
    obtain ⟨u2, hu2⟩ : ∃ u, poor l (twoP q (true, p)) (m - j) = u := ⟨_, rfl⟩
    rw [hu1] at s1
    rw [hu2] at s2
    simp only [oneP, twoP, if_true] at s1 s2
    rw [show q.1 + p + (q.2.2.1 - p) = q.1 + q.2.2.1 by omega] at s2
    have epw := Aside0.mk (show wrap64 (((q.1 + p : Nat) : Int) + 1) = ((q.1 + (p + 1) : Nat) : Int) by have := i.2.2.1; rw [w64 (by omega) (by omega)]; omega)
    have n := ihd (p + 1) (stepP l q m j b (true, p)) (by omega) (by omega) next
    refine Ev.step (fun k => by simp only [spec_ntPiece.l1, epw.out, emj.out]; rw [if_pos hlt]) (Ev.bind s1 ?_)
    have e1 : stepP l q m j b (true, p) = mx b (mn u1 u2) := by unfold stepP valP; rw [hu1, hu2]
    by_cases hb : u1 > b
    · rw [e1] at n
      refine ev_if_pos hb (Ev.bind s2 ?_)
      refine ev_val (a := mn u1 u2) (least_mn u1 u2) ?_
      refine ev_val (a := mx b (mn u1 u2)) (most_mx b (mn u1 u2)) ?_
      exact n
    · rw [stepP_skip q m j b (true, p) (by rw [hu1]; exact hb)] at n
      exact ev_if_neg hb n
theorem piece_l0 (h : Nuts l w) {q : Pt} (i : Inn w l.length q) {m : Nat} (hm : m ≤ 5) (ih : ∀ q' m', Inn w l.length q' → siz q' < siz q → 1 ≤ m' → m' ≤ 5 → Says l q' m') : ∀ (d j : Nat) (b : Int), 1 ≤ j → j + d = m →
    Ev (fun k => spec_ntPiece.l0 k l (q.1 : Int) (q.2.1 : Int) ((q.1 + q.2.2.1 : Nat) : Int) ((q.2.1 + q.2.2.2 : Nat) : Int) (m : Int) b (j : Int)) (iterP l q m b j d) := by
  have h8 := h.wide8
  have exw := Aside0.mk (show wrap64 ((q.1 : Int) + 1) = ((q.1 + 1 : Nat) : Int) by have := i.2.2.1; rw [w64 (by omega) (by omega)]; omega)
  intro d
  induction d with
  | zero =>
    intro j b hj hjd
    refine Ev.step (f := fun _ => some b) (fun k => ?_) (Ev.now _)
    simp only [spec_ntPiece.l0]
    rw [if_neg (by omega)]
  | succ d ihd =>
    intro j b hj hjd
    have n := ihd (j + 1) ((cuts q.2.2.1 q.2.2.2).foldl (stepP l q m j) b) (by omega) (by omega)
    rw [show cuts q.2.2.1 q.2.2.2 = cutsOf true 1 (q.2.2.1 - 1) ++ cutsOf false 1 (q.2.2.2 - 1) from rfl, List.foldl_append] at n
    have n2 := piece_l1 h i hj (by omega) hm ih _ (q.2.2.1 - 1) 1 b (Nat.le_refl _) (by have := i.1; omega) n
    refine Ev.step (fun k => ?_) (by
      rw [show iterP l q m b j (d + 1) = iterP l q m ((cuts q.2.2.1 q.2.2.2).foldl (stepP l q m j) b) (j + 1) d from rfl, show cuts q.2.2.1 q.2.2.2 = cutsOf true 1 (q.2.2.1 - 1) ++ cutsOf false 1 (q.2.2.2 - 1) from rfl, List.foldl_append]
      exact n2)
    simp only [spec_ntPiece.l0, exw.out]
    rw [if_pos (by omega)]
theorem says (h : Nuts l w) : ∀ (s : Nat) (q : Pt) (m : Nat), Inn w l.length q → siz q ≤ s → 1 ≤ m → m ≤ 5 → Says l q m := by
  have h8 := h.wide8
  have l8 := h.rows8
  intro s
  induction s with
  | zero => intro q m i hs; exact absurd i.1 (by unfold siz at hs; omega)
  | succ s ih =>
    intro q m i hs hm1 hm5
    have ar := area_leR h8 l8 i
    have hsub : wrap64 ((wrap64 (((q.1 + q.2.2.1 : Nat) : Int) - (q.1 : Int))) * (wrap64 (((q.2.1 + q.2.2.2 : Nat) : Int) - (q.2.1 : Int)))) = ((area q : Nat) : Int) := by
      have x1 := i.2.2.1
      have x2 := i.2.2.2
      rw [w64 (x := ((q.1 + q.2.2.1 : Nat) : Int) - (q.1 : Int)) (by omega) (by omega), w64 (x := ((q.2.1 + q.2.2.2 : Nat) : Int) - (q.2.1 : Int)) (by omega) (by omega)]
      rw [show ((q.1 + q.2.2.1 : Nat) : Int) - (q.1 : Int) = (q.2.2.1 : Int) by omega, show ((q.2.1 + q.2.2.2 : Nat) : Int) - (q.2.1 : Int) = (q.2.2.2 : Int) by omega, ← Int.natCast_mul]
      unfold area at ar ⊢
      rw [w64 (by omega) (by omega)]
    unfold Says
    by_cases hfew : area q < m
    · rw [poor_none h _ q m i (Nat.le_refl _) hfew]
      refine Ev.step (f := fun _ => some (-1)) (fun k => ?_) (Ev.now _)
      simp only [spec_ntPiece.f, hsub]
      rw [if_pos (by omega)]
    · by_cases h1 : m = 1
      · subst h1
        have sm := ntSum_ev h q.1 q.2.1 (q.1 + q.2.2.1) (q.2.1 + q.2.2.2) (by omega) i.2.2.1 (by omega) i.2.2.2
        rw [show q.1 + q.2.2.1 - q.1 = q.2.2.1 by omega, show q.2.1 + q.2.2.2 - q.2.1 = q.2.2.2 by omega] at sm
        rw [poor_eq l h8 l8 i 1, if_pos rfl]
        refine Ev.step (fun k => by simp only [spec_ntPiece.f, hsub]; rw [if_neg (by omega), if_pos (by omega)]) (Ev.bind sm (Ev.now _))
      · rw [← iterP_poor h i h1]
        refine Ev.step (fun k => ?_) (piece_l0 h i hm5 (fun q' m' i' hq' a b => ih q' m' i' (by omega) a b) (m - 1) 1 (-1) (Nat.le_refl _) (by omega))
        simp only [spec_ntPiece.f, hsub]
        rw [if_neg (by omega), if_neg (by omega)]
        rfl
end
theorem poorest_both (l : List ByteArray) (a : Int) (hl : l.length ≤ 1048576) (hz : sizes l ≤ 1048576) : ∃ r, Ev (fun k => spec_PoorestPiece.f k l a) r ∧ impl_PoorestPiece.f l a = some r := by
  obtain ⟨b, hg, hi, hb⟩ := good_both l hl hz
  cases b with
  | false =>
    refine ⟨(0, false), ?_, ?_⟩
    · unfold spec_PoorestPiece.f
      refine Ev.bind hg (ev_if_neg (by decide) (Ev.now _))
    · unfold impl_PoorestPiece.f
      rw [if_pos ⟨hl, hz⟩, hi]
      rfl
  | true =>
    obtain ⟨w, h⟩ := hb rfl
    have hp := h.rows1
    have h8 := h.wide8
    have l8 := h.rows8
    have hprod : w * l.length ≤ 8 * 8 := Nat.mul_le_mul h8 l8
    have emul : wrap64 ((l.length : Int) * (w : Int)) = ((w * l.length : Nat) : Int) := by
      rw [show (l.length : Int) * (w : Int) = ((w * l.length : Nat) : Int) by rw [Int.natCast_mul, Int.mul_comm]]
      rw [w64 (by omega) (by omega)]
    have hsh : Ev (fun k => spec_ntSharers.f k l a ((w * l.length : Nat) : Int)) (decide (1 ≤ a ∧ a ≤ mn ((w * l.length : Nat) : Int) 5)) := by
      unfold spec_ntSharers.f
      exact Ev.bind hg (ev_if_pos rfl (ev_val (least_mn _ _) (ev_val (l1In_some _ _ _) (Ev.now _))))
    have hiff : (1 ≤ a ∧ a ≤ mn ((w * l.length : Nat) : Int) 5) ↔ (1 ≤ a ∧ a ≤ 5 ∧ a ≤ ((w * l.length : Nat) : Int)) := by
      unfold mn
      by_cases c : (5 : Int) < ((w * l.length : Nat) : Int)
      · rw [if_pos c]; omega
      · rw [if_neg c]; omega
    by_cases hn : 1 ≤ a ∧ a ≤ 5 ∧ a ≤ ((w * l.length : Nat) : Int)
    · obtain ⟨m, rfl⟩ : ∃ m : Nat, a = (m : Int) := ⟨a.toNat, by omega⟩
      refine ⟨(poor l (0, 0, w, l.length) m, true), ?_, ?_⟩
      · rw [decide_eq_true (hiff.2 hn)] at hsh
        have s := says h _ (0, 0, w, l.length) m (Nuts.innR h) (Nat.le_refl _) (by omega) (by omega)
        unfold Says at s
        simp only [Nat.zero_add, Int.natCast_zero] at s
        unfold spec_PoorestPiece.f
        rw [Nuts.widthR h]
        simp only [emul]
        exact Ev.bind hg (ev_if_pos rfl (ev_if_pos (by omega) (Ev.bind hsh (ev_if_pos rfl (Ev.bind s (Ev.now _))))))
      · unfold impl_PoorestPiece.f
        rw [if_pos ⟨hl, hz⟩, hi, Option.bind_some, if_pos rfl, Nuts.widthR h, if_pos hn, Int.toNat_natCast]
    · refine ⟨(0, false), ?_, ?_⟩
      · rw [decide_eq_false (fun c => hn (hiff.1 c))] at hsh
        unfold spec_PoorestPiece.f
        rw [Nuts.widthR h]
        simp only [emul]
        exact Ev.bind hg (ev_if_pos rfl (ev_if_pos (by omega) (Ev.bind hsh (ev_if_neg (by decide) (Ev.now _)))))
      · unfold impl_PoorestPiece.f
        rw [if_pos ⟨hl, hz⟩, hi, Option.bind_some, if_pos rfl, Nuts.widthR h, if_neg hn]
theorem FnExactPoorestPiece (l0 : List ByteArray) (hm : l0.length ≤ maxLen) (_ : l0.length * 16 ≤ 140737488351232) (hs : (∀ s ∈ l0, s.size ≤ 140737488351232)) (a1 : Int) (_ : (Lit.int .i64 a1).wf = true) : ∃ k, laws_FnExactPoorestPiece.f k l0 a1 = some true := by
  refine Ev.rounds (r := true) ?_
  unfold laws_FnExactPoorestPiece.f
  obtain ⟨t, ht, hz⟩ := sz_ev l0 hm hs
  refine Ev.bind ht ?_
  by_cases h0 : t < 0
  · simp only [if_pos h0]
    exact Ev.now _
  · simp only [if_neg h0]
    obtain ⟨hl, hz⟩ := hz (by omega)
    have hc := toStringS_ev l0 hl
    obtain ⟨r, hS, hI⟩ := poorest_both l0 a1 hl hz
    refine Ev.bind hc (Ev.bind hS (Ev.bind hc (ev_val hI (ev_if_pos rfl ?_))))
    rw [bne_self_eq_false]
    refine Ev.step (fun k => by simp only [laws_FnExactPoorestPiece.j0, Bool.false_eq_true, if_false]; rfl) ?_
    refine Ev.bind hc (Ev.bind (eqStringS_refl l0 (by omega)) ?_)
    exact ev_if_pos rfl (Ev.now _)
end Go.Proofs.YtedpdfmaccoinaaDoor.Pure
