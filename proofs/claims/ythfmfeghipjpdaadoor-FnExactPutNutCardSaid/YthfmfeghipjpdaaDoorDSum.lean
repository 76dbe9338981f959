/- How many nuts are in a part: the program's sum and the reference's are one. Conditions: nuts, a part inside. -/
import Derived.Test.YthfmfeghipjpdaaDoorDNuts
import Derived.Test.YthfmfeghipjpdaaDoorPx12
import Derived.Test.YthfmfeghipjpdaaDoorPx15
namespace Go.Proofs.YthfmfeghipjpdaaDoor.Pure
open Go.RowKit Go.Proofs.YthfmfeghipjpdaaDoor.P Go.Proofs.YthfmfeghipjpdaaDoorW.PrintWords Go.Proofs.YthfmfeghipjpdaaDoorW.PrintLast
def dg (s : ByteArray) (i : Nat) : Int := bt s (i : Int) - 48
def rowSum (s : ByteArray) : Nat → Nat → Int
  | _, 0 => 0
  | i, d + 1 => dg s i + rowSum s (i + 1) d
def partSum (l : List ByteArray) (x W : Nat) : Nat → Nat → Int
  | _, 0 => 0
  | j, d + 1 => rowSum (rdOf ByteArray.empty l (j : Int)) x W + partSum l x W (j + 1) d
/-- A row of digits. -/
def Digits (s : ByteArray) (w : Nat) : Prop := s.size = w ∧ w ≤ 8 ∧ ∀ i, i < w → 48 ≤ bt s (i : Int) ∧ bt s (i : Int) ≤ 57
theorem Nuts.row {l : List ByteArray} {w : Nat} (h : Nuts l w) (j : Nat) (hj : j < l.length) : Digits (rdOf ByteArray.empty l (j : Int)) w := by
  rw [rs_lt l j hj]
  have hs := h.wide l[j] (List.getElem_mem hj)
  refine ⟨hs, h.wide8, fun i hi => ?_⟩
  rw [bt_lt _ i (by omega)]
  have := h.digit l[j] (List.getElem_mem hj) (l[j].data.toList[i]'(by show i < l[j].size; omega)) (List.getElem_mem _)
  omega
theorem rowSum_bd (s : ByteArray) (w : Nat) (h : Digits s w) : ∀ (d i : Nat), i + d ≤ w → 0 ≤ rowSum s i d ∧ rowSum s i d ≤ 9 * d := by
  intro d
  induction d with
  | zero => intro i hi; exact ⟨Int.le_refl _, by simp [rowSum]⟩
  | succ d ih =>
    intro i hi
    have a := ih (i + 1) (by omega)
    have b := h.2.2 i (by omega)
    have e : rowSum s i (d + 1) = (bt s (i : Int) - 48) + rowSum s (i + 1) d := rfl
    rw [e]
    omega
theorem partSum_bd {l : List ByteArray} {w : Nat} (h : Nuts l w) (x W : Nat) (hx : x + W ≤ w) : ∀ (d j : Nat), j + d ≤ l.length → 0 ≤ partSum l x W j d ∧ partSum l x W j d ≤ 72 * d := by
  intro d
  induction d with
  | zero => intro j hj; exact ⟨Int.le_refl _, by simp [partSum]⟩
  | succ d ih =>
    intro j hj
    have a := ih (j + 1) (by omega)
    have b := rowSum_bd _ w (h.row j (by omega)) W x hx
    have e : partSum l x W j (d + 1) = rowSum (rdOf ByteArray.empty l (j : Int)) x W + partSum l x W (j + 1) d := rfl
    have w8 := h.wide8
    rw [e]
    omega

section
variable {l : List ByteArray} {w : Nat}
theorem spec_sum_l1 (h : Nuts l w) (x X Y y : Nat) (hX : X ≤ w) (hy : y < l.length) (r : Int) (a0 : Int) (ha0 : 0 ≤ a0) (ha1 : a0 ≤ 100000)
    (next : Ev (fun k => spec_ntSum.l0 k l (x : Int) (X : Int) (Y : Int) (a0 + rowSum (rdOf ByteArray.empty l (y : Int)) x (X - x)) ((y + 1 : Nat) : Int)) r) :
    ∀ (d i : Nat) (a : Int), i + d = X → x ≤ i → a + rowSum (rdOf ByteArray.empty l (y : Int)) i d = a0 + rowSum (rdOf ByteArray.empty l (y : Int)) x (X - x) → 0 ≤ a → Ev (fun k => spec_ntSum.l1 k l (x : Int) (X : Int) (Y : Int) a (y : Int) (i : Int)) r := by
  have hd := h.row y hy
  have hl8 := h.rows8
  intro d
  induction d with
  | zero =>
    intro i a hi hxi ha h0
    have e : a = a0 + rowSum (rdOf ByteArray.empty l (y : Int)) x (X - x) := by rw [← ha]; simp [rowSum]
    subst e
    refine Ev.step (fun k => ?_) next
    simp only [spec_ntSum.l1]
    rw [if_neg (by omega), w64 (by omega) (by omega)]
    rfl
  | succ d ih =>
    intro i a hi hxi ha h0
    have b := hd.2.2 i (by omega)
    have hs := hd.1
    have bd := rowSum_bd _ w hd (X - x) x (by omega)
    have bd2 := rowSum_bd _ w hd d (i + 1) (by omega)
    have e1 : rowSum (rdOf ByteArray.empty l (y : Int)) i (d + 1) = (bt (rdOf ByteArray.empty l (y : Int)) (i : Int) - 48) + rowSum (rdOf ByteArray.empty l (y : Int)) (i + 1) d := rfl
    have w8 := h.wide8
    rw [e1] at ha
    refine Ev.step (fun k => ?_) (ih (i + 1) (a + (bt (rdOf ByteArray.empty l (y : Int)) (i : Int) - 48)) (by omega) (by omega) (by omega) (by omega))
    simp only [spec_ntSum.l1]
    rw [if_pos (by omega), if_pos (by omega), if_pos (by omega), if_pos (by omega), if_pos (by omega), w64 (x := (i : Int) + 1) (by omega) (by omega), show (bt (rdOf ByteArray.empty l (y : Int)) (i : Int) - 48) % 256 = bt (rdOf ByteArray.empty l (y : Int)) (i : Int) - 48 by omega, w64 (by omega) (by omega)]
    rfl
theorem spec_sum_l0 (h : Nuts l w) (x X Y : Nat) (hxX : x ≤ X) (hX : X ≤ w) (hY : Y ≤ l.length) :
    ∀ (d j : Nat) (a : Int), j + d = Y → 0 ≤ a → a ≤ 72 * j → Ev (fun k => spec_ntSum.l0 k l (x : Int) (X : Int) (Y : Int) a (j : Int)) (a + partSum l x (X - x) j d) := by
  have hl8 := h.rows8
  have w8 := h.wide8
  intro d
  induction d with
  | zero =>
    intro j a hj h0 h1
    refine Ev.step (f := fun _ => some (a + partSum l x (X - x) j 0)) (fun k => ?_) (Ev.now _)
    simp only [spec_ntSum.l0]
    rw [if_neg (by omega)]
    simp [partSum]
  | succ d ih =>
    intro j a hj h0 h1
    have bd := rowSum_bd _ w (h.row j (by omega)) (X - x) x (by omega)
    have next := ih (j + 1) (a + rowSum (rdOf ByteArray.empty l (j : Int)) x (X - x)) (by omega) (by omega) (by omega)
    have e : a + partSum l x (X - x) j (d + 1) = a + rowSum (rdOf ByteArray.empty l (j : Int)) x (X - x) + partSum l x (X - x) (j + 1) d := by
      show a + (_ + _) = _
      omega
    rw [e]
    refine Ev.step (fun k => ?_) (spec_sum_l1 h x X Y j hX (by omega) _ a h0 (by omega) next (X - x) x a (by omega) (Nat.le_refl _) rfl h0)
    simp only [spec_ntSum.l0]
    rw [if_pos (by omega)]
theorem ntSum_ev (h : Nuts l w) (x y X Y : Nat) (hxX : x ≤ X) (hX : X ≤ w) (hyY : y ≤ Y) (hY : Y ≤ l.length) : Ev (fun k => spec_ntSum.f k l (x : Int) (y : Int) (X : Int) (Y : Int)) (partSum l x (X - x) y (Y - y)) := by
  have := spec_sum_l0 h x X Y hxX hX hY (Y - y) y 0 (by omega) (Int.le_refl _) (by omega)
  rw [Int.zero_add] at this
  exact this

theorem impl_sum_l1 (h : Nuts l w) (L : List ByteArray) (n q : Int) (s : ByteArray) (hd : Digits s w) (x y W H : Nat) (hW : x + W ≤ w) (r : Int) (a0 : Int) (ha0 : 0 ≤ a0) (ha1 : a0 ≤ 100000)
    (next : Ev (fun k => impl_nutsIn.l0 k (a0 + rowSum s x W) L n (wrap64 (q + 1)) (x : Int) (y : Int) (W : Int) (H : Int)) r) :
    ∀ (d i : Nat) (a : Int), i + d = x + W → x ≤ i → a + rowSum s i d = a0 + rowSum s x W → 0 ≤ a → Ev (fun k => impl_nutsIn.l1 k a s (i : Int) L n q (x : Int) (y : Int) (W : Int) (H : Int)) r := by
  have hl8 := h.rows8
  have w8 := h.wide8
  have wX : wrap64 ((x : Int) + (W : Int)) = (x : Int) + (W : Int) := w64 (by omega) (by omega)
  intro d
  induction d with
  | zero =>
    intro i a hi hxi ha h0
    have e : a = a0 + rowSum s x W := by rw [← ha]; simp [rowSum]
    subst e
    refine Ev.step (fun k => ?_) next
    simp only [impl_nutsIn.l1, wX]
    rw [if_neg (by omega)]
  | succ d ih =>
    intro i a hi hxi ha h0
    have b := hd.2.2 i (by omega)
    have hs := hd.1
    have bd := rowSum_bd _ w hd W x (by omega)
    have bd2 := rowSum_bd _ w hd d (i + 1) (by omega)
    have e1 : rowSum s i (d + 1) = (bt s (i : Int) - 48) + rowSum s (i + 1) d := rfl
    rw [e1] at ha
    refine Ev.step (fun k => ?_) (ih (i + 1) (a + (bt s (i : Int) - 48)) (by omega) (by omega) (by omega) (by omega))
    simp only [impl_nutsIn.l1, wX]
    rw [if_pos (by omega), if_pos (by omega), if_pos (by omega), w64 (x := (i : Int) + 1) (by omega) (by omega), show (bt s (i : Int) - 48) % 256 = bt s (i : Int) - 48 by omega, w64 (by omega) (by omega)]
    rfl
theorem impl_sum_l0 (h : Nuts l w) (x y W H : Nat) (hW : x + W ≤ w) (hH : y + H ≤ l.length) (L : List ByteArray) (hL : L.length = H) (hr : ∀ j, j < H → rdOf ByteArray.empty L (j : Int) = rdOf ByteArray.empty l ((y + j : Nat) : Int)) :
    ∀ (d j : Nat) (a : Int), j + d = H → 0 ≤ a → a ≤ 72 * j → Ev (fun k => impl_nutsIn.l0 k a L (L.length : Int) (j : Int) (x : Int) (y : Int) (W : Int) (H : Int)) (a + partSum l x W (y + j) d) := by
  have hl8 := h.rows8
  have w8 := h.wide8
  intro d
  induction d with
  | zero =>
    intro j a hj h0 h1
    refine Ev.step (f := fun _ => some (a + partSum l x W (y + j) 0)) (fun k => ?_) (Ev.now _)
    simp only [impl_nutsIn.l0]
    rw [if_neg (by omega)]
    simp [partSum]
  | succ d ih =>
    intro j a hj h0 h1
    have hd := h.row (y + j) (by omega)
    have bd := rowSum_bd _ w hd W x (by omega)
    have next := ih (j + 1) (a + rowSum (rdOf ByteArray.empty l ((y + j : Nat) : Int)) x W) (by omega) (by omega) (by omega)
    have e : a + partSum l x W (y + j) (d + 1) = a + rowSum (rdOf ByteArray.empty l ((y + j : Nat) : Int)) x W + partSum l x W (y + (j + 1)) d := by
      show a + (_ + _) = _
      rw [show y + j + 1 = y + (j + 1) by omega]
      omega
    rw [e]
    refine Ev.step (fun k => ?_) (impl_sum_l1 h L (L.length : Int) (j : Int) _ hd x y W H hW _ a h0 (by omega) (by rw [w64 (by omega) (by omega)]; exact next) W x a (by omega) (Nat.le_refl _) rfl h0)
    simp only [impl_nutsIn.l0, hr j (by omega)]
    rw [if_pos (by omega), if_pos (by omega), if_pos (by omega)]
theorem nutsIn_ev (h : Nuts l w) (x y W H : Nat) (hW : x + W ≤ w) (hH : y + H ≤ l.length) : Ev (fun k => impl_nutsIn.f k l (x : Int) (y : Int) (W : Int) (H : Int)) (partSum l x W y H) := by
  have hl8 := h.rows8
  have w8 := h.wide8
  have wY : wrap64 ((y : Int) + (H : Int)) = ((y + H : Nat) : Int) := by rw [w64 (by omega) (by omega)]; omega
  have hlen : ((l.take (y + H)).drop y).length = H := by rw [List.length_drop, List.length_take]; omega
  have := impl_sum_l0 h x y W H hW hH ((l.take (y + H)).drop y) hlen (fun j hj => by
    rw [rs_lt _ j (by omega), rs_lt _ (y + j) (by omega)]
    simp) H 0 0 (by omega) (Int.le_refl _) (by omega)
  rw [Int.zero_add, Nat.add_zero] at this
  unfold impl_nutsIn.f
  simp only [wY, Int.toNat_natCast]
  simp only [if_pos (show 0 ≤ (y : Int) by omega), if_pos (show (y : Int) ≤ ((y + H : Nat) : Int) by omega), if_pos (show ((y + H : Nat) : Int) ≤ (l.length : Int) by omega)]
  exact this
end
end Go.Proofs.YthfmfeghipjpdaaDoor.Pure
