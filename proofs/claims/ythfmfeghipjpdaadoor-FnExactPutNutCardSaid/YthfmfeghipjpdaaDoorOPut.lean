/- impl.put: a list of texts with another sign at a place: what the call comes to. Conditions: the slice reads as the list; the place is in it. -/
import Derived.Test.YthfmfeghipjpdaaDoorPx0
import Derived.Test.YthfmfeghipjpdaaDoorOCloneS
import Derived.BigRegion
import Derived.Lib.Hide
namespace Go.Proofs.YthfmfeghipjpdaaDoor.P
open Go.RowKit Go.Proofs.YthfmfeghipjpdaaDoorW.PrintWords Go.Proofs.YthfmfeghipjpdaaDoorW.PrintLast Go.Proofs.YthfmfeghipjpdaaDoorW.PrintMore
set_option linter.unusedVariables false
set_option maxHeartbeats 4000000 in
set_option maxRecDepth 100000 in
theorem put_walk (A0 : Option Addr) (c0 : Nat) (l0 : List ByteArray) (x y : Nat) (sg : Int) (s : ByteArray) (w : World) (hr0 : Kd.C Kd.string w A0 l0.length l0) (hc0 : l0.length ≤ c0) (hn : l0.length ≤ 8796093022208) (hy : y < l0.length) (hs : l0[y]? = some s) (hx : x < s.size) (hs8 : s.size ≤ 100) (h0 : 0 ≤ sg) (h1 : sg < 256) :
    Calls Tryd.prog 57 #[.slice A0 l0.length c0, .int .i64 (x : Int), .int .i64 (y : Int), .int .u8 sg] w fun e w' => ∃ v0_ : Value, e = .returned (v0_) ∧ Kd.R (Kd.string) 9 w' w.heap.size (fun _ => True) v0_ (l0.set y (s.extract 0 x ++ strOfNums [sg] ++ s.extract (x + 1) s.size)) ∧ Below w.heap.size w w' := by
  have CL := Lib.hid (slices_Clone_string_string.calls A0 c0 l0 l0 w hr0 hc0 (if_pos hn))
  clear hr0 hc0 hn
  have HY := Lib.hid hy
  have HS := Lib.hid hs
  clear hy hs
  go_enter Tryd.func57, Tryd.ntmps57
  go_wp2_with (first | (go_at_call 73; refine CL.out.mono ?_; rintro e w1 ⟨v9, rfl, ho, hb⟩; have HO := Lib.hid ho; have HB := Lib.hid hb; clear ho hb CL; obtain ⟨g, cap, ev, hbase, hg, cells, hcells⟩ := Kd.R_form HO.out (by have := HY.out; omega); subst ev))
  have hy' := HY.out
  have p0 : (0 : Int) ≤ (y : Int) := by omega
  have p1 : (y : Int) < (l0.length : Int) := by omega
  have p2 : ¬ (y : Int) < 0 := by omega
  have p3 : y < l0.length := hy'
  obtain ⟨hcell, hfr⟩ := Kd.R_celln ByteArray.empty HO.out (y : Int) p0 p1
  have hrd : rdOf ByteArray.empty l0 (y : Int) = s := by unfold rdOf; rw [Int.toNat_natCast, List.getD_eq_getElem?_getD, HS.out]; rfl
  rw [hrd] at hcell
  simp only [Int.toNat_natCast] at hcell hfr
  have hcv : (Go.convert 73 9 (.slice (some ⟨w1.heap.size, 0, none⟩) 1 1)).run Tryd.prog (w1.alloc (.cells #[.int .u8 sg] 5)).drew = .ok (.string (strOfNums [sg])) (w1.alloc (.cells #[.int .u8 sg] 5)).drew :=
    own_string (P := Tryd.prog) (w := (w1.alloc (.cells #[.int .u8 sg] 5)).drew) (base := w1.heap.size) (e' := 5) (e := 5) Tryd.underlying73 Tryd.underlying5 Tryd.underlying9 (own_lit w1 w1.heap.size 5 .u8 [sg] (Nat.le_refl _) (by simp))
  have q0 : x ≤ s.size := by omega
  have q1 : (x : Int) ≤ (s.size : Int) := by omega
  have q2 : wrap64 ((x : Int) + 1) = (x : Int) + 1 := by unfold wrap64; omega
  have q3 : (x : Int) + 1 ≤ (s.size : Int) := by omega
  have q4 : x + 1 ≤ s.size := by omega
  have z1 : (strOfNums [sg]).size = 1 := by simp [strOfNums, ByteArray.size]
  have r1 : ¬ 9223372036854775807 < x + (strOfNums [sg]).size := by omega
  have r2 : ¬ 9223372036854775807 < x + (strOfNums [sg]).size + (s.size - (x + 1)) := by omega
  clear hy' hrd z1
  go_region
  go_wp2
  go_ret
  refine ⟨_, rfl, Kd.R_drew (Kd.R_alloc ?_ _), below_drew1 (below_alloc (below_set HB.out hbase) _)⟩
  have := Kd.R_put HO.out (y : Int) (s.extract 0 x ++ strOfNums [sg] ++ s.extract (x + 1) s.size)
  rw [Int.toNat_natCast] at this
  exact this.1
def impl_put.f (l0 : List ByteArray) (a1 : Int) (a2 : Int) (a3 : Int) : Option (List ByteArray) := if l0.length ≤ 8796093022208 ∧ 0 ≤ a2 ∧ a2 < (l0.length : Int) ∧ 0 ≤ a1 ∧ a1 < ((rdOf ByteArray.empty l0 a2).size : Int) ∧ (rdOf ByteArray.empty l0 a2).size ≤ 100 ∧ 0 ≤ a3 ∧ a3 < 256 then some (l0.set a2.toNat ((rdOf ByteArray.empty l0 a2).extract 0 a1.toNat ++ strOfNums [a3] ++ (rdOf ByteArray.empty l0 a2).extract (a1.toNat + 1) (rdOf ByteArray.empty l0 a2).size)) else none
theorem impl_put.calls (A0 : Option Addr) (c0 : Nat) (l0 : List ByteArray) (a1 : Int) (a2 : Int) (a3 : Int) (r : List ByteArray) (w : World) (hr0 : Kd.C Kd.string w A0 l0.length l0) (hc0 : l0.length ≤ c0) (h : impl_put.f l0 a1 a2 a3 = some r) :
    Calls Tryd.prog 57 #[.slice A0 l0.length c0, .int .i64 a1, .int .i64 a2, .int .u8 a3] w fun e w' => ∃ v0_ : Value, e = .returned (v0_) ∧ Kd.R (Kd.string) 9 w' w.heap.size (fun _ => True) v0_ r ∧ Below w.heap.size w w' := by
  unfold impl_put.f at h
  by_cases hc : l0.length ≤ 8796093022208 ∧ 0 ≤ a2 ∧ a2 < (l0.length : Int) ∧ 0 ≤ a1 ∧ a1 < ((rdOf ByteArray.empty l0 a2).size : Int) ∧ (rdOf ByteArray.empty l0 a2).size ≤ 100 ∧ 0 ≤ a3 ∧ a3 < 256
  · rw [if_pos hc] at h
    cases h
    obtain ⟨hn, h0, h1, h2, h3, h4, h5, h6⟩ := hc
    have := put_walk A0 c0 l0 a1.toNat a2.toNat a3 (rdOf ByteArray.empty l0 a2) w hr0 hc0 hn (by omega) (by unfold rdOf; rw [List.getD_eq_getElem?_getD, List.getElem?_eq_getElem (by omega)]; rfl) (by omega) h4 h5 h6
    rw [show ((a1.toNat : Nat) : Int) = a1 by omega, show ((a2.toNat : Nat) : Int) = a2 by omega] at this
    exact this
  · rw [if_neg hc] at h
    cases h
end Go.Proofs.YthfmfeghipjpdaaDoor.P
