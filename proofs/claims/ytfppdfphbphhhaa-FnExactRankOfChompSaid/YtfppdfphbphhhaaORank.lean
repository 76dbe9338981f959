/- impl.RankOfChomp, its literal and the search it is handed to: what the calls come to. Conditions: as each states. -/
import Derived.Test.YtfppdfphbphhhaaOAll
import Derived.Test.YtfppdfphbphhhaaHShelf
import Derived.Test.YtfppdfphbphhhaaHCells
import Derived.Test.YtfppdfphbphhhaaPx10
import Derived.Lib.SlBy
import Derived.Lib.Hide
namespace Go.Proofs.Ytfppdfphbphhhaa.P
open Go.RowKit Go.Proofs.YtfppdfphbphhhaaW.PrintWords Go.Proofs.YtfppdfphbphhhaaW.PrintLast Go.Proofs.YtfppdfphbphhhaaW.PrintMore
set_option linter.unusedVariables false
set_option linter.unusedSimpArgs false
theorem C_getD {w : World} {A : Option Addr} {n : Nat} {xs : List Int} (h : Kd.C (Kd.int .i64) w A n xs) (hp : 0 < n) : ∃ b o, A = some ⟨b, o, none⟩ ∧ ∀ j, j < xs.length → w.cell? ⟨b, o + j, none⟩ = some (.int .i64 (xs.getD j 0)) := by
  have hl : xs.length = n := h.1
  subst hl
  obtain ⟨b, off, rfl, _, hc⟩ := Open.C_at h hp
  refine ⟨b, off, rfl, fun j hj => ?_⟩
  rw [hc j hj, getElem!_pos xs j hj, List.getD_eq_getElem?_getD, List.getElem?_eq_getElem hj]
  rfl
/-- slices.Equal of two rows, whatever they are. -/
theorem rows_Equal (A1 A2 : Option Addr) (c1 c2 : Nat) (x y : List Int) (w : World) (hx : Kd.C (Kd.int .i64) w A1 x.length x) (hy : Kd.C (Kd.int .i64) w A2 y.length y) (hbx : x.length ≤ 9223372036854775807) :
    Calls Try.prog 63 #[.slice A1 x.length c1, .slice A2 y.length c2] w fun e w' => e = .returned (.bool (decide (x = y))) ∧ Drawn0 w w' := by
  by_cases hl : x.length = y.length
  · by_cases hp : 0 < x.length
    · obtain ⟨b1, o1, rfl, g1⟩ := C_getD hx hp
      obtain ⟨b2, o2, rfl, g2⟩ := C_getD hy (by omega)
      refine (Try.slices_Equal_int b1 o1 x.length c1 b2 o2 y.length c2 x y w (Nat.le_refl _) (Nat.le_refl _) hbx (by omega) g1 g2).mono ?_
      rintro e w' ⟨rfl, hq⟩
      refine ⟨?_, ⟨hq⟩⟩
      rw [List.take_length, List.take_length, show (x == y) = decide (x = y) by by_cases e : x = y <;> simp [e]]
    · have e1 : x = [] := List.eq_nil_of_length_eq_zero (by omega)
      have e2 : y = [] := List.eq_nil_of_length_eq_zero (by omega)
      subst e1 e2
      refine (Try.slices_Equal_int_empty A1 A2 c1 0 c2 w (by omega)).mono ?_
      rintro e w' ⟨rfl, rfl⟩
      exact ⟨rfl, Drawn0.refl _⟩
  · refine (Try.slices_Equal_int_lens A1 A2 x.length c1 y.length c2 w hl).mono ?_
    rintro e w' ⟨rfl, rfl⟩
    refine ⟨?_, Drawn0.refl _⟩
    rw [decide_eq_false (fun h => hl (by rw [h]))]
set_option maxHeartbeats 2000000 in
theorem rank_lit {W : World} {bx : Nat} {A0 Ax : Option Addr} {c0 cx : Nat} {l0 x : List Int} (h0 : W.cell? ⟨bx, 0, none⟩ = some (.slice A0 l0.length c0)) (hr0 : Kd.C (Kd.int .i64) W A0 l0.length l0) (hx : Kd.C (Kd.int .i64) W Ax x.length x) (hb : x.length ≤ 9223372036854775807) :
    Calls Try.prog 62 #[.slice Ax x.length cx, .pointer (some ⟨bx, 0, none⟩)] W fun e w' => e = .returned (.bool (decide (x = l0))) ∧ Drawn0 W w' := by
  have C := Lib.hid (fun (_ : Unit) => rows_Equal Ax A0 cx c0 x l0 W hx hr0 hb)
  clear hr0 hx hb
  generalize decide (x = l0) = r at C ⊢
  go_enter Try.func62, Try.ntmps62
  go_wp2_with (go_at_call 63; refine (C.out ()).mono ?_; rintro e w' ⟨rfl, ⟨q, rfl⟩⟩)
  go_ret
  exact ⟨rfl, ⟨_, rfl⟩⟩
set_option maxHeartbeats 4000000 in
theorem rows_IndexFunc (bx base : Nat) (ok : Nat → Prop) (A0 : Option Addr) (c0 : Nat) (l0 : List Int) (v : Value) (xs : List (List Int)) (w : World) (h0 : w.cell? ⟨bx, 0, none⟩ = some (.slice A0 l0.length c0)) (hr0 : Kd.C (Kd.int .i64) w A0 l0.length l0) (hr : Kd.R (Kd.slice 3 (Kd.int .i64)) 22 w base ok v xs) (hbig : xs.length ≤ 1000000) :
    Calls Try.prog 61 #[v, .func (.func 62) #[] #[.pointer (some ⟨bx, 0, none⟩)]] w fun e w' => e = .returned (.int .i64 (Lib.idxBy (fun x y => decide (y = x)) xs l0)) ∧ Drawn0 w w' := by
  obtain ⟨Ar, cr, er⟩ := Kd.R_slice hr
  subst er
  have HR := Aside0.mk hr
  have HR0 := Aside0.mk hr0
  have eg := enters_of Try.func62 (f := 62) (by kernel_rfl) rfl
  have H0 := Aside0.mk h0
  have HBIG := Aside0.mk hbig
  clear hr hr0 h0 hbig
  go_enter Try.func61, Try.ntmps61
  go_wp2
  go_loopg [5, 8] xs.length (fun gg _ s8 wr => ∃ (kk q : Nat), Aside0 (kk ≤ xs.length) ∧ Aside0 (xs.length - kk ≤ gg) ∧ s8 = .int .i64 kk ∧ Aside0 (wr = w.drewN q) ∧ Aside0 (∀ j, j < kk → (decide (xs[j]! = l0)) = false))
  case atStart => exact ⟨0, 0, ⟨Nat.zero_le _⟩, ⟨by omega⟩, rfl, ⟨rfl⟩, ⟨fun j hj => absurd hj (Nat.not_lt_zero _)⟩⟩
  case round =>
    obtain ⟨kk, q0, hkk, hg, rfl, hw, A⟩ := hrel
    obtain rfl := hw.out
    by_cases hlt : kk < xs.length
    · have hltz : (kk : Int) < (xs.length : Int) := by omega
      have HQ := Aside0.mk (show xs.length - (kk + 1) < gk by have := hg.out; omega)
      have LT := Aside0.mk hlt
      have BND := HBIG.out
      obtain ⟨ad, Ax, cx, e, hx, hl, hi⟩ := at_L1 (Kd.R_reads' (Kd.R_drewN HR.out q0)).2.2 (kk : Int) (by omega) (by omega)
      subst e
      have hgx : rd_L1 xs (kk : Int) = xs[kk]! := by unfold rd_L1; rw [Int.toNat_natCast, getElem!_pos xs kk hlt, List.getD_eq_getElem?_getD, List.getElem?_eq_getElem hlt]; rfl
      rw [hgx] at hx hl hi
      rw [Int.toNat_natCast] at hx
      generalize hy : xs[kk]! = y at hx hl hi
      have B := Aside0.mk hy
      clear hy hgx
      have C : Aside0 (Calls Try.prog 62 #[.slice Ax y.length cx, .pointer (some ⟨bx, 0, none⟩)] (w.drewN q0) fun e w' => e = .returned (.bool (decide (y = l0))) ∧ Drawn0 (w.drewN q0) w') := ⟨rank_lit (A0 := A0) (c0 := c0) (by simpa using H0.out) (Kd.C_drewN HR0.out q0) hi hi.2.1⟩
      clear hi hl hg hw
      cases hq : decide (y = l0) with
      | true =>
        rw [hq] at C
        go_wp2_with (first | (go_at_fn 62; refine C.out.mono ?_; rintro e w2 ⟨rfl, ⟨q, rfl⟩⟩) | (refine C.out.mono ?_; rintro e w2 ⟨rfl, ⟨q, rfl⟩⟩))
        go_ret
        refine ⟨?_, ⟨_, by first | rfl | exact drewN_add _ _ _ | simp⟩⟩
        have := Lib.idxBy_hit (fun x y => decide (y = x)) xs xs.length kk l0 LT.out (Nat.le_refl _) (by show decide (xs[kk]! = l0) = true; rw [B.out]; exact hq) A.out
        rw [List.take_length] at this
        rw [this]; rfl
      | false =>
        rw [hq] at C
        go_wp2_with (first | (go_at_fn 62; refine C.out.mono ?_; rintro e w2 ⟨rfl, ⟨q, rfl⟩⟩) | (refine C.out.mono ?_; rintro e w2 ⟨rfl, ⟨q, rfl⟩⟩))
        go_roundg (xs.length - (kk + 1))
        case measure => have := HQ.out; omega
        case rel =>
          refine ⟨kk + 1, q0 + q, ⟨LT.out⟩, ⟨Nat.le_refl _⟩, by go_num, ⟨by first | rfl | simp⟩, ⟨fun j hj => ?_⟩⟩
          by_cases e : j = kk
          · subst e
            rw [B.out]; exact hq
          · exact A.out j (by omega)
    · have hltz : ¬ (kk : Int) < (xs.length : Int) := by omega
      have e : kk = xs.length := by have := hkk.out; omega
      have A2 := A.out
      rw [e] at A2
      have miss := Lib.idxBy_miss (fun x y => decide (y = x)) xs xs.length l0 A2
      rw [List.take_length] at miss
      have M := Aside0.mk miss
      clear miss A2 e
      go_wp2
      go_ret
      refine ⟨?_, ⟨_, rfl⟩⟩
      rw [M.out]; rfl
def impl_RankOfChomp.f (k : Nat) (l0 : List Int) : Option (Int × Bool) := (impl_IsChomp.f k l0).bind fun t => if t = true then some (Lib.idxBy (fun x y => decide (y = x)) (gen 6 6 []) l0, true) else some (0, false)
theorem impl_RankOfChomp.mono : ∀ a0 k, LeO (impl_RankOfChomp.f k a0) (impl_RankOfChomp.f (k + 1) a0) := fun a0 k => LeO.bind (impl_IsChomp.mono a0 k) (fun _ => LeO.refl _)
set_option maxHeartbeats 4000000 in
set_option maxRecDepth 100000 in
theorem impl_RankOfChomp.calls (k : Nat) (A0 : Option Addr) (c0 : Nat) (l0 : List Int) (r1 : Int) (r2 : Bool) (w : World) (hr0 : Kd.C (Kd.int .i64) w A0 l0.length l0) (hc0 : l0.length ≤ c0) (h : impl_RankOfChomp.f k l0 = some (r1, r2)) :
    Calls Try.prog 42 #[.slice A0 l0.length c0] w fun e w' => e = .returned (.tuple #[.int .i64 r1, .bool r2]) ∧ Below w.heap.size w w' := by
  unfold impl_RankOfChomp.f at h
  obtain ⟨t, h1, h2⟩ := Option.bind_eq_some_iff.1 h
  clear h
  have H1 := Lib.hid (fun W (hc : Kd.C (Kd.int .i64) W A0 l0.length l0) => impl_IsChomp.calls k A0 c0 l0 t W hc hc0 h1)
  have HR0 := Aside0.mk hr0
  clear hr0 hc0 h1
  cases t with
  | false =>
    simp only [Bool.false_eq_true, if_false, Option.some.injEq, Prod.mk.injEq] at h2
    obtain ⟨rfl, rfl⟩ := h2
    go_enter Try.func42, Try.ntmps42
    go_wp2_with (go_at_call 16; refine (H1.out _ (Kd.C_alloc HR0.out _)).mono ?_; rintro e w2 ⟨rfl, hb⟩; have HB := Aside0.mk (below_step (below_alloc (Below.refl _ _) _) hb : Below w.heap.size w w2); clear hb)
    go_ret2
    exact ⟨rfl, HB.out⟩
  | true =>
    simp only [if_true, Option.some.injEq, Prod.mk.injEq] at h2
    obtain ⟨h3, rfl⟩ := h2
    have HC := Lib.hid (fun W => impl_chomps.calls 6 6 (gen 6 6 []) W (by unfold impl_chomps.f; rw [if_pos (by omega)]; rfl))
    have hfew := Aside0.mk (gen_few 6 6 (by omega) (by omega))
    generalize gen 6 6 [] = l at h3 HC hfew
    have HE := Aside0.mk h3
    clear h3
    go_enter Try.func42, Try.ntmps42
    go_wp2_with (first | (go_at_call 16; refine (H1.out _ (Kd.C_alloc HR0.out _)).mono ?_; rintro e w2 ⟨rfl, hb⟩; have HB1 := Aside0.mk hb; have hcell2 : w2.cell? ⟨w.heap.size, 0, none⟩ = some (.slice A0 l0.length c0) := (hb.cell (p := ⟨w.heap.size, 0, none⟩) (by simp)).trans (by simp); clear hb) | (go_at_call 57; refine (HC.out _).mono ?_; rintro e w3 ⟨v, rfl, hrow, hb3⟩; have HB3 := Aside0.mk hb3; have HROW := Aside0.mk hrow; have hcell3 : w3.cell? ⟨w.heap.size, 0, none⟩ = some (.slice A0 l0.length c0) := (hb3.cell (p := ⟨w.heap.size, 0, none⟩) (World.block_lt_of_cell? w2 _ hcell2)).trans hcell2; clear hb3 hrow) | (go_at_call 61; refine (rows_IndexFunc w.heap.size _ _ A0 c0 l0 v l w3 hcell3 (Kd.C_below (Kd.C_below (Kd.C_alloc HR0.out _) HB1.out) HB3.out) HROW.out hfew.out).mono ?_; rintro e w4 ⟨rfl, ⟨q, rfl⟩⟩))
    go_ret2
    refine ⟨?_, ?_⟩
    · rw [← HE.out]; rfl
    · exact pw_below_drewN (below_step (below_step (below_alloc (Below.refl _ _) _) HB1.out) HB3.out) _
end Go.Proofs.Ytfppdfphbphhhaa.P
