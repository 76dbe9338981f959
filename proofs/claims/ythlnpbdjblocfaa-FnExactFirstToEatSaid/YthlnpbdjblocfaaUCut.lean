/- Bars and the breaks of a bar, in plain numbers; what the program's own functions on them come to; the keys of a memory by bars. Conditions: sides of 1 to 12. -/
import Derived.Test.YthlnpbdjblocfaaUW
import Derived.Test.YthlnpbdjblocfaaUMemo
import Derived.Test.YthlnpbdjblocfaaPx26
import Derived.Test.YthlnpbdjblocfaaPx27
import Derived.Test.YthlnpbdjblocfaaPx28
namespace Go.Proofs.Ythlnpbdjblocfaa.Pure
open Go Go.RowKit Go.Proofs.Ythlnpbdjblocfaa.P Go.Proofs.YthlnpbdjblocfaaW.PrintWords Go.Proofs.YthlnpbdjblocfaaW.PrintLast Go.Proofs.YthlnpbdjblocfaaW.PrintMore Go.Proofs.Ythlnpbdjblocfaa.Mem
def cutsOf (v : Bool) : Nat → Nat → List (Bool × Nat)
  | _, 0 => []
  | i, d + 1 => (v, i) :: cutsOf v (i + 1) d
def mkC (c : Bool × Nat) : S60 := ⟨c.1, (c.2 : Int)⟩
theorem cutsOf_mem (v : Bool) : ∀ (d i : Nat) (c : Bool × Nat), c ∈ cutsOf v i d → c.1 = v ∧ i ≤ c.2 ∧ c.2 < i + d := by
  intro d
  induction d with
  | zero => intro i c hc; exact absurd hc (List.not_mem_nil)
  | succ d ih =>
    intro i c hc
    rcases List.mem_cons.1 hc with rfl | hc
    · exact ⟨rfl, Nat.le_refl _, by show i < i + (d + 1); omega⟩
    · have := ih (i + 1) c hc
      exact ⟨this.1, by omega, by omega⟩
theorem cutsOf_len (v : Bool) : ∀ (d i : Nat), (cutsOf v i d).length = d
  | 0, _ => rfl
  | d + 1, i => by rw [show cutsOf v i (d + 1) = (v, i) :: cutsOf v (i + 1) d from rfl, List.length_cons, cutsOf_len v d]
theorem cuts_l1 (w h : Nat) (hh : h ≤ 100) : ∀ (d i : Nat) (acc : List S60), i + d = h → acc.length + d ≤ 1000 → Ev (fun k => impl_Bar_cuts.l1 k acc (i : Int) (w : Int) (h : Int)) (acc ++ (cutsOf false i d).map mkC) := by
  intro d
  induction d with
  | zero =>
    intro i acc hi ha
    refine Ev.step (f := fun _ => some acc) (fun k => ?_) (by rw [show acc ++ (cutsOf false i 0).map mkC = acc from List.append_nil _]; exact Ev.now _)
    simp only [impl_Bar_cuts.l1]
    rw [if_neg (by omega)]
  | succ d ih =>
    intro i acc hi ha
    have n := ih (i + 1) (acc ++ [mkC (false, i)]) (by omega) (by rw [List.length_append, List.length_singleton]; omega)
    rw [show acc ++ (cutsOf false i (d + 1)).map mkC = (acc ++ [mkC (false, i)]) ++ (cutsOf false (i + 1) d).map mkC by simp [cutsOf]]
    refine Ev.step (fun k => ?_) n
    simp only [impl_Bar_cuts.l1]
    rw [if_pos (by omega), if_pos (by omega), w64 (by omega) (by omega)]
    rfl
theorem cuts_l0 (w h : Nat) (hh : h ≤ 100) (hw : w ≤ 100) (hh1 : 1 ≤ h) : ∀ (d i : Nat) (acc : List S60), i + d = w → acc.length + d ≤ 500 → Ev (fun k => impl_Bar_cuts.l0 k acc (i : Int) (w : Int) (h : Int)) (acc ++ (cutsOf true i d ++ cutsOf false 1 (h - 1)).map mkC) := by
  intro d
  induction d with
  | zero =>
    intro i acc hi ha
    have n := cuts_l1 w h hh (h - 1) 1 acc (by omega) (by omega)
    refine Ev.step (fun k => ?_) n
    simp only [impl_Bar_cuts.l0]
    rw [if_neg (by omega)]
    rfl
  | succ d ih =>
    intro i acc hi ha
    have n := ih (i + 1) (acc ++ [mkC (true, i)]) (by omega) (by rw [List.length_append, List.length_singleton]; omega)
    rw [show acc ++ (cutsOf true i (d + 1) ++ cutsOf false 1 (h - 1)).map mkC = (acc ++ [mkC (true, i)]) ++ (cutsOf true (i + 1) d ++ cutsOf false 1 (h - 1)).map mkC by simp [cutsOf]]
    refine Ev.step (fun k => ?_) n
    simp only [impl_Bar_cuts.l0]
    rw [if_pos (by omega), if_pos (by omega), w64 (by omega) (by omega)]
    rfl
/-- All breaks of a bar. -/
def cuts (w h : Nat) : List (Bool × Nat) := cutsOf true 1 (w - 1) ++ cutsOf false 1 (h - 1)
theorem cuts_ev (w h : Nat) (hh : h ≤ 100) (hw : w ≤ 100) (hh1 : 1 ≤ h) (hw1 : 1 ≤ w) : Ev (fun k => impl_Bar_cuts.f k (w : Int) (h : Int)) ((cuts w h).map mkC) := by
  have := cuts_l0 w h hh hw hh1 (w - 1) 1 [] (by omega) (by simp; omega)
  rw [List.nil_append] at this
  exact this
theorem cuts_mem (w h : Nat) (c : Bool × Nat) (hc : c ∈ cuts w h) : 1 ≤ c.2 ∧ c.2 < (if c.1 then w else h) := by
  rcases List.mem_append.1 hc with hc | hc
  · have := cutsOf_mem true _ _ _ hc
    rw [this.1]
    exact ⟨this.2.1, by rw [if_pos rfl]; omega⟩
  · have := cutsOf_mem false _ _ _ hc
    rw [this.1]
    exact ⟨this.2.1, by rw [if_neg (by decide)]; omega⟩
theorem cuts_len (w h : Nat) : (cuts w h).length = (w - 1) + (h - 1) := by unfold cuts; rw [List.length_append, cutsOf_len, cutsOf_len]
theorem rd_cuts (cs : List (Bool × Nat)) (i : Nat) (h : i < cs.length) : rd_T60 (cs.map mkC) (i : Int) = mkC cs[i] := by
  unfold rd_T60
  rw [Int.toNat_natCast, List.getD_eq_getElem?_getD, List.getElem?_map, List.getElem?_eq_getElem h]
  rfl
theorem foldl_congr_mem {α β : Type} {f g : β → α → β} : ∀ (l : List α) (b : β), (∀ b x, x ∈ l → f b x = g b x) → l.foldl f b = l.foldl g b
  | [], _, _ => rfl
  | x :: l, b, h => by
    rw [List.foldl_cons, List.foldl_cons, h b x (by simp), foldl_congr_mem l (g b x) (fun b y hy => h b y (by simp [hy]))]
abbrev Br := Nat × Nat
def oneB (q : Br) (c : Bool × Nat) : Br := if c.1 then (c.2, q.2) else (q.1, c.2)
def twoB (q : Br) (c : Bool × Nat) : Br := if c.1 then (q.1 - c.2, q.2) else (q.1, q.2 - c.2)
/-- A bar. -/
def OkB (q : Br) : Prop := 1 ≤ q.1 ∧ q.1 ≤ 12 ∧ 1 ≤ q.2 ∧ q.2 ≤ 12
def szB (q : Br) : Nat := q.1 + q.2
def arB (q : Br) : Nat := q.1 * q.2
theorem OkB.one {q : Br} (i : OkB q) {c : Bool × Nat} (hc : c ∈ cuts q.1 q.2) : OkB (oneB q c) ∧ szB (oneB q c) < szB q := by
  have m := cuts_mem _ _ _ hc
  obtain ⟨a, b⟩ := q
  obtain ⟨v, p⟩ := c
  cases v <;> simp only [OkB, szB, oneB, if_true, if_false, Bool.false_eq_true] at * <;> omega
theorem OkB.two {q : Br} (i : OkB q) {c : Bool × Nat} (hc : c ∈ cuts q.1 q.2) : OkB (twoB q c) ∧ szB (twoB q c) < szB q := by
  have m := cuts_mem _ _ _ hc
  obtain ⟨a, b⟩ := q
  obtain ⟨v, p⟩ := c
  cases v <;> simp only [OkB, szB, twoB, if_true, if_false, Bool.false_eq_true] at * <;> omega
theorem OkB.area {q : Br} (i : OkB q) : 1 ≤ arB q ∧ arB q ≤ 144 := ⟨Nat.mul_pos i.1 i.2.2.1, Nat.mul_le_mul i.2.1 i.2.2.2⟩
theorem ar_split {q : Br} {c : Bool × Nat} (hc : c ∈ cuts q.1 q.2) : arB (oneB q c) + arB (twoB q c) = arB q := by
  have m := cuts_mem _ _ _ hc
  obtain ⟨a, b⟩ := q
  obtain ⟨v, p⟩ := c
  cases v with
  | true =>
    simp only [if_true] at m
    simp only [arB, oneB, twoB, if_true]
    rw [← Nat.add_mul, show p + (a - p) = a by omega]
  | false =>
    simp only [Bool.false_eq_true, if_false] at m
    simp only [arB, oneB, twoB, Bool.false_eq_true, if_false]
    rw [← Nat.mul_add, show p + (b - p) = b by omega]
theorem broken_bar {a b : Nat} (i : OkB (a, b)) {v : Bool} {p : Nat} (hc : (v, p) ∈ cuts a b) :
    impl_Bar_broken.f (a : Int) (b : Int) v (p : Int) = some (((oneB (a, b) (v, p)).1 : Int), ((oneB (a, b) (v, p)).2 : Int), ((twoB (a, b) (v, p)).1 : Int), ((twoB (a, b) (v, p)).2 : Int), true) := by
  have m := cuts_mem _ _ _ hc
  simp only [OkB] at i
  unfold impl_Bar_broken.f
  cases v with
  | true =>
    simp only [if_true] at m
    rw [if_pos rfl, within_some, w64 (x := (a : Int) - 1) (by omega) (by omega), w64 (x := (a : Int) - (p : Int)) (by omega) (by omega), show (a : Int) - (p : Int) = ((a - p : Nat) : Int) by omega, decide_eq_true (by omega)]
    simp only [Option.bind_some, if_true, oneB, twoB]
  | false =>
    simp only [Bool.false_eq_true, if_false] at m
    rw [if_neg (by decide), within_some, w64 (x := (b : Int) - 1) (by omega) (by omega), w64 (x := (b : Int) - (p : Int)) (by omega) (by omega), show (b : Int) - (p : Int) = ((b - p : Nat) : Int) by omega, decide_eq_true (by omega)]
    simp only [Option.bind_some, Bool.false_eq_true, if_false, oneB, twoB]
theorem squares_nat {a b : Nat} (ha : a ≤ 100) (hb : b ≤ 100) : impl_Bar_squares.f (a : Int) (b : Int) = some ((a * b : Nat) : Int) := by
  have h : a * b ≤ 100 * 100 := Nat.mul_le_mul ha hb
  have h2 : ((a * b : Nat) : Int) ≤ 10000 := by omega
  have h3 : (0 : Int) ≤ ((a * b : Nat) : Int) := Int.natCast_nonneg _
  rw [Int.natCast_mul] at h2 h3
  unfold impl_Bar_squares.f
  rw [Int.natCast_mul, w64 (by omega) (by omega)]
theorem kt26 : Try.prog.keyType 26 = true := by kernel_rfl
theorem tsz : ∃ n, Try.prog.types.size = n + 3 := ⟨Try.prog.types.size - 3, by kernel_rfl⟩
theorem c26 : Try.prog.cellsOf 26 = 2 := by kernel_rfl
theorem c3 : Try.prog.cellsOf 3 = 1 := by kernel_rfl
theorem kl3 (n : Nat) (x : Int) (hx : (Lit.int .i64 x).wf = true) : Try.prog.keyLits (n+1) 3 [.int .i64 x] = some [.int .i64 x] := by
  simp only [Program.keyLits, Try.underlying3, hx]; rfl
theorem kl26 (n : Nat) (x y : Int) (hx : (Lit.int .i64 x).wf = true) (hy : (Lit.int .i64 y).wf = true) : Try.prog.keyLits (n+2) 26 [.int .i64 x, .int .i64 y] = some [.int .i64 x, .int .i64 y] := by
  unfold Program.keyLits; simp only [Try.underlying26]
  simp [c26, c3, kl3 n _ hx, kl3 n _ hy]
def valB (q : Br) : Value := .agg #[.int .i64 (q.1 : Int), .int .i64 (q.2 : Int)]
noncomputable def keyB (q : Br) : Lit := (keyOf Try.prog 26 (valB q)).getD .nil
theorem wfn {n : Nat} (h : n < 13) : (Lit.int .i64 (n : Int)).wf = true := by
  have : ∀ k : Fin 13, (Lit.int .i64 ((k.1 : Nat) : Int)).wf = true := by decide
  exact this ⟨n, h⟩
theorem keyB_some (q : Br) (h : OkB q) : keyOf Try.prog 26 (valB q) = some (keyB q) := by
  obtain ⟨n, hn⟩ := tsz
  obtain ⟨a, b⟩ := q
  simp only [OkB] at h
  have : ∃ k, keyOf Try.prog 26 (valB (a, b)) = some k := by
    unfold keyOf valB
    rw [Try.underlying26]
    simp only [kt26, Value.formed, Try.underlying26, c26, Value.cells]
    rw [hn, show n + 3 + 1 = (n + 2) + 2 from rfl, kl26 (n + 2) _ _ (wfn (n := a) (by omega)) (wfn (n := b) (by omega))]
    exact ⟨_, rfl⟩
  obtain ⟨k, hk⟩ := this
  rw [keyB, hk]; rfl
theorem law26 : Maps.Keyed Try.prog 26 := Maps.Keyed.of_law (deep_law_laid (by kernel_rfl) (m := 10) (by decide) (of_decide_eq_true (by kernel_rfl)) (by kernel_rfl) (by rw [Try.underlying26]))
theorem valB_inj {q q' : Br} (h : valB q = valB q') : q = q' := by
  obtain ⟨a, b⟩ := q
  obtain ⟨a', b'⟩ := q'
  simp only [valB, Value.agg.injEq, Array.mk.injEq, List.cons.injEq, Value.int.injEq, true_and, and_true] at h
  obtain ⟨h1, h2⟩ := h
  rw [Int.ofNat_inj.1 h1, Int.ofNat_inj.1 h2]
def barsB : List Br := (List.range 13).flatMap fun a => (List.range 13).map fun b => (a, b)
theorem mem_barsB (q : Br) (h : OkB q) : q ∈ barsB := by
  obtain ⟨a, b⟩ := q
  simp only [OkB] at h
  exact List.mem_flatMap.2 ⟨a, List.mem_range.2 (by omega), List.mem_map.2 ⟨b, List.mem_range.2 (by omega), rfl⟩⟩
noncomputable def ksB : List Lit := barsB.map keyB
theorem ksB_lt : ksB.length < maxLen := by unfold ksB; rw [List.length_map, show barsB.length = 169 from rfl]; decide
end Go.Proofs.Ythlnpbdjblocfaa.Pure
