/- One break of a bar with nuts: how far apart the two parts are, in the program and in the reference. Conditions: nuts, a break inside. -/
import Derived.Test.YtedpdfmaccoinaaDoorDSum
import Derived.Test.YtedpdfmaccoinaaDoorPx29
import Derived.Test.YtedpdfmaccoinaaDoorPx35
import Derived.Test.YtedpdfmaccoinaaDoorPx32
namespace Go.Proofs.YtedpdfmaccoinaaDoor.Pure
open Go.RowKit Go.Proofs.YtedpdfmaccoinaaDoor.P Go.Proofs.YtedpdfmaccoinaaDoorW.PrintWords Go.Proofs.YtedpdfmaccoinaaDoorW.PrintLast Go.Proofs.YtedpdfmaccoinaaDoorW.PrintMore
theorem rowSum_split (s : ByteArray) (b : Nat) : ∀ (a i : Nat), rowSum s i (a + b) = rowSum s i a + rowSum s (i + a) b := by
  intro a
  induction a with
  | zero => intro i; rw [Nat.zero_add, Nat.add_zero]; simp [rowSum]
  | succ a ih =>
    intro i
    rw [show a + 1 + b = a + b + 1 by omega]
    show dg s i + rowSum s (i + 1) (a + b) = (dg s i + rowSum s (i + 1) a) + _
    rw [ih (i + 1), show i + 1 + a = i + (a + 1) by omega, Int.add_assoc]
theorem partSum_cols (l : List ByteArray) (x a b : Nat) : ∀ (d j : Nat), partSum l x (a + b) j d = partSum l x a j d + partSum l (x + a) b j d := by
  intro d
  induction d with
  | zero => intro j; simp [partSum]
  | succ d ih =>
    intro j
    show rowSum _ x (a + b) + partSum l x (a + b) (j + 1) d = (rowSum _ x a + partSum l x a (j + 1) d) + (rowSum _ (x + a) b + partSum l (x + a) b (j + 1) d)
    rw [ih (j + 1), rowSum_split]
    omega
theorem partSum_rows (l : List ByteArray) (x W b : Nat) : ∀ (a j : Nat), partSum l x W j (a + b) = partSum l x W j a + partSum l x W (j + a) b := by
  intro a
  induction a with
  | zero => intro j; rw [Nat.zero_add, Nat.add_zero]; simp [partSum]
  | succ a ih =>
    intro j
    rw [show a + 1 + b = a + b + 1 by omega]
    show rowSum _ x W + partSum l x W (j + 1) (a + b) = (rowSum _ x W + partSum l x W (j + 1) a) + _
    rw [ih (j + 1), show j + 1 + a = j + (a + 1) by omega, Int.add_assoc]
def ab (x : Int) : Int := if x < 0 then -x else x
theorem ab_pos (x : Int) : 0 ≤ ab x := by unfold ab; by_cases h : x < 0 <;> simp only [h, if_true, if_false] <;> omega
def brk (l : List ByteArray) (w : Nat) (v : Bool) (p : Nat) : Int := if v then ab (partSum l p (w - p) 0 l.length - partSum l 0 p 0 l.length) else ab (partSum l 0 w p (l.length - p) - partSum l 0 w 0 p)
theorem brk_pos (l : List ByteArray) (w : Nat) (v : Bool) (p : Nat) : 0 ≤ brk l w v p := by cases v <;> exact ab_pos _
theorem abs_some (x : Int) (h0 : -1000000 ≤ x) (h1 : x ≤ 1000000) : spec_l1Abs.f x = some (ab x) := by
  unfold spec_l1Abs.f spec_l1Most.f ab
  rw [w64 (by omega) (by omega)]
  by_cases c : x > -x
  · rw [if_pos c, if_neg (by omega)]; rfl
  · rw [if_neg c]
    by_cases c2 : x < 0
    · rw [if_pos c2]; rfl
    · rw [if_neg c2, show -x = x by omega]; rfl
theorem mx_ab (x : Int) (h0 : -1000000 ≤ x) (h1 : x ≤ 1000000) : mx (wrap64 x) (wrap64 (-(wrap64 x))) = ab (-x) := by
  rw [w64 (x := x) (by omega) (by omega), w64 (by omega) (by omega)]
  unfold mx ab
  by_cases c : x < -x
  · rw [if_pos c, if_neg (by omega)]
  · rw [if_neg c]
    by_cases c2 : -x < 0
    · rw [if_pos c2]; omega
    · rw [if_neg c2]; omega
section
variable {l : List ByteArray} {w : Nat}
theorem all_ev (h : Nuts l w) : Ev (fun k => spec_ntAll.f k l) (partSum l 0 w 0 l.length) := by
  have hp := h.rows1
  have h0 : ((rdOf ByteArray.empty l 0).size : Int) = (w : Int) := by
    have := (h.row 0 (by omega)).1
    simp only [Int.natCast_zero] at this
    omega
  have s := ntSum_ev h 0 0 w l.length (by omega) (Nat.le_refl _) (by omega) (Nat.le_refl _)
  unfold spec_ntAll.f
  refine ev_if_pos (by omega) ?_
  rw [h0]
  exact Ev.bind s (Ev.now _)
theorem ntBreak_ev (h : Nuts l w) (v : Bool) (p : Nat) (hp : 1 ≤ p) (hv : p < (if v then w else l.length)) : Ev (fun k => spec_ntBreak.f k l v (p : Int)) (brk l w v p) := by
  have h8 := h.rows8
  have w8 := h.wide8
  have h1 := h.rows1
  have h0 : ((rdOf ByteArray.empty l 0).size : Int) = (w : Int) := by
    have := (h.row 0 (by omega)).1
    simp only [Int.natCast_zero] at this
    omega
  have ha := all_ev h
  cases v with
  | true =>
    have hv : p < w := hv
    have s := ntSum_ev h 0 0 p l.length (by omega) (by omega) (by omega) (Nat.le_refl _)
    have e := partSum_cols l 0 p (w - p) l.length 0
    rw [show p + (w - p) = w by omega, Nat.zero_add] at e
    have bd1 := partSum_bd h 0 p (by omega) l.length 0 (by omega)
    have bd2 := partSum_bd h p (w - p) (by omega) l.length 0 (by omega)
    unfold spec_ntBreak.f
    refine ev_if_pos rfl (Ev.bind s (Ev.bind ha ?_))
    rw [Nat.sub_zero, Nat.sub_zero, w64 (x := 2 * _) (by omega) (by omega), w64 (by omega) (by omega)]
    refine ev_val (abs_some _ (by omega) (by omega)) ?_
    rw [show partSum l 0 w 0 l.length - 2 * partSum l 0 p 0 l.length = partSum l p (w - p) 0 l.length - partSum l 0 p 0 l.length by omega]
    exact Ev.now _
  | false =>
    have hv : p < l.length := hv
    have s := ntSum_ev h 0 0 w p (by omega) (by omega) (by omega) (by omega)
    have e := partSum_rows l 0 w (l.length - p) p 0
    rw [show p + (l.length - p) = l.length by omega, Nat.zero_add] at e
    have bd1 := partSum_bd h 0 w (by omega) p 0 (by omega)
    have bd2 := partSum_bd h 0 w (by omega) (l.length - p) p (by omega)
    unfold spec_ntBreak.f
    refine ev_if_neg (by decide) (ev_if_pos (by omega) ?_)
    rw [h0]
    refine Ev.bind s (Ev.bind ha ?_)
    rw [Nat.sub_zero, Nat.sub_zero, w64 (x := 2 * _) (by omega) (by omega), w64 (by omega) (by omega)]
    refine ev_val (abs_some _ (by omega) (by omega)) ?_
    rw [show partSum l 0 w 0 l.length - 2 * partSum l 0 w 0 p = partSum l 0 w p (l.length - p) - partSum l 0 w 0 p by omega]
    exact Ev.now _
theorem whole_some (h : Nuts l w) : impl_whole.f l = some (0, 0, (w : Int), (l.length : Int)) := by
  have hp := h.rows1
  have h0 : ((rdOf ByteArray.empty l 0).size : Int) = (w : Int) := by
    have := (h.row 0 (by omega)).1
    simp only [Int.natCast_zero] at this
    omega
  unfold impl_whole.f
  rw [if_pos (by omega), h0]
theorem apart_ev (h : Nuts l w) (v : Bool) (p : Nat) (hp : 1 ≤ p) (hv : p < (if v then w else l.length)) : Ev (fun k => impl_apart.f k l v (p : Int)) (brk l w v p) := by
  have h8 := h.rows8
  have w8 := h.wide8
  have h1 := h.rows1
  unfold impl_apart.f
  refine ev_val (whole_some h) ?_
  cases v with
  | true =>
    have hv : p < w := hv
    have hb : impl_part_broken.f 0 0 (w : Int) (l.length : Int) true (p : Int) = some (0, 0, (p : Int), (l.length : Int), (p : Int), 0, ((w - p : Nat) : Int), (l.length : Int)) := by
      unfold impl_part_broken.f impl_Bar_broken.f
      rw [if_pos rfl, within_some, w64 (x := (w : Int) - (p : Int)) (by omega) (by omega), show (w : Int) - (p : Int) = ((w - p : Nat) : Int) by omega]
      simp only [Option.bind_some, if_true]
      rw [w64 (x := (0 : Int) + (p : Int)) (by omega) (by omega), Int.zero_add]
    have bd1 := partSum_bd h 0 p (by omega) l.length 0 (by omega)
    have bd2 := partSum_bd h p (w - p) (by omega) l.length 0 (by omega)
    refine ev_val hb (Ev.bind (nutsIn_ev h 0 0 p l.length (by omega) (by omega)) (Ev.bind (nutsIn_ev h p 0 (w - p) l.length (by omega) (by omega)) ?_))
    rw [mx_ab _ (by omega) (by omega), show -(partSum l 0 p 0 l.length - partSum l p (w - p) 0 l.length) = partSum l p (w - p) 0 l.length - partSum l 0 p 0 l.length by omega]
    exact Ev.now _
  | false =>
    have hv : p < l.length := hv
    have hb : impl_part_broken.f 0 0 (w : Int) (l.length : Int) false (p : Int) = some (0, 0, (w : Int), (p : Int), 0, (p : Int), (w : Int), ((l.length - p : Nat) : Int)) := by
      unfold impl_part_broken.f impl_Bar_broken.f
      rw [if_neg (by decide), within_some, w64 (x := (l.length : Int) - (p : Int)) (by omega) (by omega), show (l.length : Int) - (p : Int) = ((l.length - p : Nat) : Int) by omega]
      simp only [Option.bind_some, Bool.false_eq_true, if_false]
      rw [w64 (x := (0 : Int) + (p : Int)) (by omega) (by omega), Int.zero_add]
    have bd1 := partSum_bd h 0 w (by omega) p 0 (by omega)
    have bd2 := partSum_bd h 0 w (by omega) (l.length - p) p (by omega)
    refine ev_val hb (Ev.bind (nutsIn_ev h 0 0 w p (by omega) (by omega)) (Ev.bind (nutsIn_ev h 0 p w (l.length - p) (by omega) (by omega)) ?_))
    rw [mx_ab _ (by omega) (by omega), show -(partSum l 0 w 0 p - partSum l 0 w p (l.length - p)) = partSum l 0 w p (l.length - p) - partSum l 0 w 0 p by omega]
    exact Ev.now _
end
def cutsOf (v : Bool) : Nat → Nat → List (Bool × Nat)
  | _, 0 => []
  | i, d + 1 => (v, i) :: cutsOf v (i + 1) d
def mkC (c : Bool × Nat) : S58 := ⟨c.1, (c.2 : Int)⟩
theorem cutsOf_mem (v : Bool) : ∀ (d i : Nat) (c : Bool × Nat), c ∈ cutsOf v i d → c.1 = v ∧ i ≤ c.2 ∧ c.2 < i + d := by
  intro d
  induction d with
  | zero => intro i c hc; exact absurd hc (List.not_mem_nil)
  | succ d ih =>
    intro i c hc
    rcases List.mem_cons.1 hc with rfl | hc
    · exact ⟨rfl, Nat.le_refl _, by show i < i + (d + 1); omega⟩
    · have := ih (i + 1) c hc
      exact ⟨this.1, by omega, by omega⟩
theorem cutsOf_len (v : Bool) : ∀ (d i : Nat), (cutsOf v i d).length = d
  | 0, _ => rfl
  | d + 1, i => by rw [show cutsOf v i (d + 1) = (v, i) :: cutsOf v (i + 1) d from rfl, List.length_cons, cutsOf_len v d]
theorem cuts_l1 (w h : Nat) (hh : h ≤ 100) : ∀ (d i : Nat) (acc : List S58), i + d = h → acc.length + d ≤ 1000 → Ev (fun k => impl_Bar_cuts.l1 k acc (i : Int) (w : Int) (h : Int)) (acc ++ (cutsOf false i d).map mkC) := by
  intro d
  induction d with
  | zero =>
    intro i acc hi ha
    refine Ev.step (f := fun _ => some acc) (fun k => ?_) (by rw [show acc ++ (cutsOf false i 0).map mkC = acc from List.append_nil _]; exact Ev.now _)
    simp only [impl_Bar_cuts.l1]
    rw [if_neg (by omega)]
  | succ d ih =>
    intro i acc hi ha
    have n := ih (i + 1) (acc ++ [mkC (false, i)]) (by omega) (by rw [List.length_append, List.length_singleton]; omega)
    rw [show acc ++ (cutsOf false i (d + 1)).map mkC = (acc ++ [mkC (false, i)]) ++ (cutsOf false (i + 1) d).map mkC by simp [cutsOf]]
    refine Ev.step (fun k => ?_) n
    simp only [impl_Bar_cuts.l1]
    rw [if_pos (by omega), if_pos (by omega), w64 (by omega) (by omega)]
    rfl
theorem cuts_l0 (w h : Nat) (hh : h ≤ 100) (hw : w ≤ 100) (hh1 : 1 ≤ h) : ∀ (d i : Nat) (acc : List S58), i + d = w → acc.length + d ≤ 500 → Ev (fun k => impl_Bar_cuts.l0 k acc (i : Int) (w : Int) (h : Int)) (acc ++ (cutsOf true i d ++ cutsOf false 1 (h - 1)).map mkC) := by
  intro d
  induction d with
  | zero =>
    intro i acc hi ha
    have n := cuts_l1 w h hh (h - 1) 1 acc (by omega) (by omega)
    refine Ev.step (fun k => ?_) n
    simp only [impl_Bar_cuts.l0]
    rw [if_neg (by omega)]
    rfl
  | succ d ih =>
    intro i acc hi ha
    have n := ih (i + 1) (acc ++ [mkC (true, i)]) (by omega) (by rw [List.length_append, List.length_singleton]; omega)
    rw [show acc ++ (cutsOf true i (d + 1) ++ cutsOf false 1 (h - 1)).map mkC = (acc ++ [mkC (true, i)]) ++ (cutsOf true (i + 1) d ++ cutsOf false 1 (h - 1)).map mkC by simp [cutsOf]]
    refine Ev.step (fun k => ?_) n
    simp only [impl_Bar_cuts.l0]
    rw [if_pos (by omega), if_pos (by omega), w64 (by omega) (by omega)]
    rfl
/-- All breaks of a bar. -/
def cuts (w h : Nat) : List (Bool × Nat) := cutsOf true 1 (w - 1) ++ cutsOf false 1 (h - 1)
theorem cuts_ev (w h : Nat) (hh : h ≤ 100) (hw : w ≤ 100) (hh1 : 1 ≤ h) (hw1 : 1 ≤ w) : Ev (fun k => impl_Bar_cuts.f k (w : Int) (h : Int)) ((cuts w h).map mkC) := by
  have := cuts_l0 w h hh hw hh1 (w - 1) 1 [] (by omega) (by simp; omega)
  rw [List.nil_append] at this
  exact this
theorem cuts_mem (w h : Nat) (c : Bool × Nat) (hc : c ∈ cuts w h) : 1 ≤ c.2 ∧ c.2 < (if c.1 then w else h) := by
  rcases List.mem_append.1 hc with hc | hc
  · have := cutsOf_mem true _ _ _ hc
    rw [this.1]
    exact ⟨this.2.1, by rw [if_pos rfl]; omega⟩
  · have := cutsOf_mem false _ _ _ hc
    rw [this.1]
    exact ⟨this.2.1, by rw [if_neg (by decide)]; omega⟩
theorem cuts_len (w h : Nat) : (cuts w h).length = (w - 1) + (h - 1) := by unfold cuts; rw [List.length_append, cutsOf_len, cutsOf_len]
end Go.Proofs.YtedpdfmaccoinaaDoor.Pure
