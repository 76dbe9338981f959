/- slices.Min and impl.CheapestToEat: what the calls come to. Conditions: as each states. -/
import Derived.Test.YthlnpbdjblocfaaOEat
import Derived.Test.YthlnpbdjblocfaaUBar
import Derived.Test.YthlnpbdjblocfaaHCells
import Derived.Test.YthlnpbdjblocfaaPx36
import Derived.Laws.EntriesVeiled
namespace Go.Proofs.Ythlnpbdjblocfaa.P
open Go.RowKit Go.Proofs.YthlnpbdjblocfaaW.PrintWords Go.Proofs.YthlnpbdjblocfaaW.PrintLast Go.Proofs.YthlnpbdjblocfaaW.PrintMore Go.Proofs.Ythlnpbdjblocfaa.Pure Go.Proofs.Ythlnpbdjblocfaa.Mem
set_option linter.unusedVariables false
set_option linter.unusedSimpArgs false
attribute [local go_sem] max2_int min2_int max_two min_two
def seg (cs : List Int) (i m : Nat) : List Int := (cs.take (i + m)).drop i
theorem seg_len (cs : List Int) (i m : Nat) (h : i + m ≤ cs.length) : (seg cs i m).length = m := by
  unfold seg
  rw [List.length_drop, List.length_take]
  omega
theorem C_seg {w : World} {b off n : Nat} {cs : List Int} (h : Kd.C (Kd.int .i64) w (some ⟨b, off, none⟩) n cs) (i m : Nat) (him : i + m ≤ n) : Kd.C (Kd.int .i64) w (some ⟨b, off + i, none⟩) m (seg cs i m) := by
  have hl : cs.length = n := h.1
  refine ⟨seg_len cs i m (by omega), by have := h.2.1; omega, fun hm => ⟨_, rfl, fun j p hp => ?_⟩⟩
  obtain ⟨ad, he, hc⟩ := h.2.2 (by omega)
  cases he
  have hj : j < m := by
    have := (List.getElem?_eq_some_iff.1 hp).1
    rwa [seg_len cs i m (by omega)] at this
  have hp' : cs[i + j]? = some p := by
    unfold seg at hp
    rw [List.getElem?_drop, List.getElem?_take_of_lt (by omega)] at hp
    exact hp
  obtain ⟨c, h1, h2, h3⟩ := hc (i + j) p hp'
  refine ⟨c, h1, h2, fun k u hu => ?_⟩
  have := h3 k u hu
  have e : ((⟨b, off + i, none⟩ : Addr).add (j * (Kd.int .i64).sz + k)) = ((⟨b, off, none⟩ : Addr).add ((i + j) * (Kd.int .i64).sz + k)) := by
    have : (Kd.int .i64).sz = 1 := rfl
    rw [this]
    unfold Addr.add
    by_cases z : j * 1 + k = 0
    · have z1 : j = 0 := by omega
      have z2 : k = 0 := by omega
      subst z1 z2
      by_cases z3 : i = 0
      · subst z3; rfl
      · simp [z3]
    · have : ¬ (i + j) * 1 + k = 0 := by omega
      have hjm : j * 1 + k = j + k := by omega
      have hjn : (i + j) * 1 + k = i + j + k := by omega
      rw [hjm] at z ⊢
      rw [hjn] at this ⊢
      simp only [Option.map_none, Addr.mk.injEq, true_and, z, this, if_false, and_true]
      try omega
  rw [e]
  exact this

theorem w64p (n : Nat) (h : n ≤ 1000) : wrap64 ((n : Int) + 1) = (n : Int) + 1 := w64 (by omega) (by omega)
theorem w64q (n m : Nat) (h : m + 1 = n) (h2 : m ≤ 144) : wrap64 ((n : Int) - 1) = (m : Int) := by rw [w64 (by omega) (by omega)]; omega
theorem old_allocM {W : World} {k : Nat} {o' : Obj} (h : W.heap[k]? = some o') (o : Obj) : (W.alloc o).heap[k]? = some o' := (Below.heap_alloc W o k (blk_lt h)).trans h
/-- The least of the first numbers. -/
def minUp (l : List Int) : Nat → Int
  | 0 => rd l 0
  | n + 1 => if rd l ((n + 1 : Nat) : Int) < minUp l n then rd l ((n + 1 : Nat) : Int) else minUp l n
def minL (l : List Int) : Int := minUp l (l.length - 1)
theorem bang_rd (l : List Int) (j : Nat) (hj : j < l.length) : l[j]! = rd l (j : Int) := by
  rw [rd_lt l j hj, getElem!_pos l j hj]
set_option maxHeartbeats 4000000 in
set_option maxRecDepth 100000 in
theorem min_calls {l : List Int} {m : Nat} (hm : l.length = m) (h0 : 1 ≤ m) (h1 : m ≤ 1000) (A : Option Addr) (c : Nat) (w : World) (hr : Kd.C (Kd.int .i64) w A m l) :
    Calls Try.prog 45 #[.slice A m c] w fun e w' => e = .returned (.int .i64 (minL l)) ∧ Below w.heap.size w w' := by
  subst hm
  obtain ⟨b, off, rfl, hb, hc⟩ := Go.Proofs.Ythlnpbdjblocfaa.Open.C_at hr (by omega)
  obtain ⟨n, hn⟩ : ∃ n, l.length = n := ⟨_, rfl⟩
  rw [hn] at h0 h1 ⊢
  have HC := Aside0.mk (show ∀ j, j < n → w.cell? ⟨b, off + j, none⟩ = some (.int .i64 (rd l (j : Int))) from fun j hj => by rw [← bang_rd l j (by omega)]; exact hc j (by omega))
  have HN := Aside0.mk hn
  clear hc hn hr
  have c0 : decide ((n : Int) < 1) = false := decide_eq_false (by omega)
  have c00 : decide (n < 1) = false := decide_eq_false (by omega)
  have p0 : (0 : Int) < (n : Int) := by omega
  have p00 : 0 < n := by omega
  have hx0 := HC.out 0 p00
  have hx00 : w.cell? ⟨b, off, none⟩ = some (.int .i64 (rd l 0)) := hx0
  obtain ⟨f0, hf0⟩ : ∃ z, rd l 0 = z := ⟨_, rfl⟩
  rw [hf0] at hx00
  have HF0 := Aside0.mk hf0
  clear hx0 hf0
  go_enter Try.func45, Try.ntmps45
  go_wp2
  clear hx00
  go_loopg [3, 4] (n + 1) (fun kq v3 v4 w' => ∃ (i : Nat) (m : Int), v3 = .int .i64 m ∧ v4 = .int .i64 (i : Int) ∧ w' = w ∧ Aside0 (1 ≤ i ∧ i ≤ n) ∧ Aside0 (n - i ≤ kq) ∧ Aside0 (m = minUp l (i - 1)))
  case atStart => exact ⟨1, f0, rfl, rfl, rfl, ⟨by omega⟩, ⟨by omega⟩, ⟨HF0.out.symm⟩⟩
  case round =>
    obtain ⟨i, m, rfl, rfl, rfl, hi, hq, hm⟩ := hrel
    by_cases hlt : i < n
    · have c1 : decide ((i : Int) < (n : Int)) = true := decide_eq_true (by omega)
      have c10 : decide (i < n) = true := decide_eq_true hlt
      have q0 : (0 : Int) ≤ (i : Int) := by omega
      have q1 : (i : Int) < (n : Int) := by omega
      have hx := HC.out i hlt
      have hs : minUp l i = if rd l (i : Int) < m then rd l (i : Int) else m := by
        have hi1 := hi.out.1
        rw [hm.out]
        cases i with
        | zero => exact absurd hi1 (by decide)
        | succ i' => rfl
      obtain ⟨x, hxx⟩ : ∃ z, rd l (i : Int) = z := ⟨_, rfl⟩
      rw [hxx] at hx hs
      have HS := Aside0.mk hs
      have HQ := Aside0.mk (show n - (i + 1) ≤ gk - 1 ∧ 0 < gk by have := hq.out; omega)
      have HLT := Aside0.mk hlt
      have e2 : (i : Int) + 1 ≤ 100000 := by omega
      clear hs hm hxx hi hq
      by_cases hl : x < m
      · have d1 : decide (x < m) = true := decide_eq_true hl
        rw [if_pos hl] at HS
        have hif : (if x < m then x else m) = x := if_pos hl
        go_wp2
        go_roundg (gk - 1)
        case measure => have := HQ.out; omega
        case rel => exact ⟨i + 1, x, (by first | rfl | (simp [hif]; done)), by go_num, rfl, ⟨by have := HLT.out; omega⟩, ⟨HQ.out.1⟩, ⟨by rw [show i + 1 - 1 = i by omega]; exact HS.out.symm⟩⟩
      · have d1 : decide (x < m) = false := decide_eq_false hl
        rw [if_neg hl] at HS
        have hif : (if x < m then x else m) = m := if_neg hl
        go_wp2
        go_roundg (gk - 1)
        case measure => have := HQ.out; omega
        case rel => exact ⟨i + 1, m, (by first | rfl | (simp [hif]; done)), by go_num, rfl, ⟨by have := HLT.out; omega⟩, ⟨HQ.out.1⟩, ⟨by rw [show i + 1 - 1 = i by omega]; exact HS.out.symm⟩⟩
    · have c1 : decide ((i : Int) < (n : Int)) = false := decide_eq_false (by omega)
      have c10 : decide (i < n) = false := decide_eq_false hlt
      obtain rfl : i = n := by have := hi.out; omega
      obtain rfl : m = minL l := by rw [hm.out]; unfold minL; rw [HN.out]
      clear hm
      go_wp2
      go_ret
      exact ⟨rfl, Below.refl _ _⟩
/-- Where a number first stands. -/
def posL (l : List Int) (v : Int) : Nat := l.findIdx (fun x => decide (v = x))
theorem pos_ev (l : List Int) (v : Int) (hl : l.length ≤ 1000) (hv : v ∈ l) : Ev (fun k => slices_Index_int_int.f k l v) ((posL l v : Nat) : Int) := by
  have hlt : posL l v < l.length := List.findIdx_lt_length_of_exists ⟨v, hv, by simp⟩
  have key : ∀ d j, j + d = posL l v → Ev (fun k => slices_Index_int_int.l0 k l v (l.length : Int) (j : Int)) ((posL l v : Nat) : Int) := by
    intro d
    induction d with
    | zero =>
      intro j hj
      obtain rfl : j = posL l v := by omega
      have hp : v = l[posL l v] := by
        have := List.findIdx_getElem (xs := l) (p := fun x => decide (v = x)) (w := hlt)
        exact of_decide_eq_true this
      have hr : rd l ((posL l v : Nat) : Int) = v := by rw [rd_lt l _ hlt]; exact hp.symm
      refine Ev.step (fun k => by simp only [slices_Index_int_int.l0]; rfl) ?_
      refine ev_if_pos (by omega) ?_
      refine ev_if_pos (by omega) ?_
      refine ev_if_pos (by omega) ?_
      exact ev_if_pos hr.symm (Ev.now _)
    | succ d ih =>
      intro j hj
      have n := ih (j + 1) (by omega)
      have hjl : j < l.length := by omega
      have hne : ¬ v = l[j] := by
        have := List.not_of_lt_findIdx (xs := l) (p := fun x => decide (v = x)) (i := j) (show j < posL l v by omega)
        simpa using this
      have hr : ¬ v = rd l (j : Int) := by rw [rd_lt l j hjl]; exact hne
      have E1 := Aside0.mk (show wrap64 ((j : Int) + 1) = ((j + 1 : Nat) : Int) by rw [w64 (by omega) (by omega)]; rfl)
      refine Ev.step (fun k => by simp only [slices_Index_int_int.l0]; rfl) ?_
      refine ev_if_pos (by omega) ?_
      refine ev_if_pos (by omega) ?_
      refine ev_if_pos (by omega) ?_
      refine ev_if_neg hr ?_
      rw [E1.out]
      exact n
  exact key (posL l v) 0 (by omega)
theorem idx_call {l : List Int} {m : Nat} (hm : l.length = m) (k : Nat) (A0 : Option Addr) (c0 : Nat) (a1 : Int) (r : Int) (w : World) (hr0 : Kd.C (Kd.int .i64) w A0 m l) (hc0 : m ≤ c0) (h : slices_Index_int_int.f k l a1 = some r) :
    Calls Try.prog 46 #[.slice A0 m c0, .int .i64 a1] w fun e w' => e = .returned (.int .i64 r) ∧ Drawn0 w w' := by
  subst hm
  exact slices_Index_int_int.calls k A0 c0 l a1 r w hr0 hc0 h
def impl_CheapestToEat.f (a0_0 : Int) (a0_1 : Int) : Option (Int × Int × Bool) := if goodB a0_0 a0_1 = true then (if a0_0 * a0_1 = 1 then some (0, 0, false) else some (((posL (seg (eat (a0_0.toNat, a0_1.toNat)) 1 (arB (a0_0.toNat, a0_1.toNat) - 1)) (minL (seg (eat (a0_0.toNat, a0_1.toNat)) 1 (arB (a0_0.toNat, a0_1.toNat) - 1))) : Nat) : Int) + 1, minL (seg (eat (a0_0.toNat, a0_1.toNat)) 1 (arB (a0_0.toNat, a0_1.toNat) - 1)), true)) else some (0, 0, false)
theorem minUp_mem (l : List Int) : ∀ n, n < l.length → minUp l n ∈ l
  | 0, h => by
    show rd l ((0 : Nat) : Int) ∈ l
    rw [rd_lt l 0 h]
    exact List.getElem_mem h
  | n + 1, h => by
    rw [minUp]
    split
    · rw [rd_lt l _ h]
      exact List.getElem_mem h
    · exact minUp_mem l n (by omega)
theorem minUp_le (l : List Int) : ∀ n j, j ≤ n → minUp l n ≤ rd l (j : Int)
  | 0, j, h => by
    obtain rfl : j = 0 := by omega
    exact Int.le_refl _
  | n + 1, j, h => by
    rw [minUp]
    by_cases e : j = n + 1
    · subst e
      split <;> omega
    · have := minUp_le l n j (by omega)
      split <;> omega
set_option maxHeartbeats 8000000 in
set_option maxRecDepth 100000 in
theorem impl_CheapestToEat.calls (a0_0 : Int) (a0_1 : Int) (r1 : Int) (r2 : Int) (r3 : Bool) (w : World) (h : impl_CheapestToEat.f a0_0 a0_1 = some (r1, r2, r3)) :
    Calls Try.prog 20 #[.agg #[.int .i64 a0_0, .int .i64 a0_1]] w fun e w' => e = .returned (.tuple #[.int .i64 r1, .int .i64 r2, .bool r3]) ∧ Below w.heap.size w w' := by
  unfold impl_CheapestToEat.f at h
  have ISB := isBar_some a0_0 a0_1
  have HB := Aside0.mk (Below.refl w.heap.size w)
  cases hg : goodB a0_0 a0_1 with
  | false =>
    rw [hg] at h ISB
    simp only [Bool.false_eq_true, if_false, Option.some.injEq, Prod.mk.injEq] at h
    obtain ⟨rfl, rfl, rfl⟩ := h
    have HI := Aside0.mk ISB
    clear ISB hg
    go_enter Try.func20, Try.ntmps20
    go_wp2_with (first | ((with_reducible refine gate_dst (N := 1) rfl ?_); refine box_event ?hg (N := 1) ?hd (cs := #[.int .i64 a0_0, .int .i64 a0_1]) (t := 26) ?hr ?_; (case hd => rfl); (case hg => rfl); (case hr => first | (go_simp; done) | (go_simp; rfl)); intro g2 hg w4 hbox hb; have BK2 := Aside0.mk hbox; have n0_ := Aside0.mk (below_step HB.out hb); clear HB hb hbox hg; have HB := n0_; clear n0_; have h2_0_w4 : w4.cell? ⟨g2, 0, none⟩ = some (.int .i64 a0_0) := (blk_cell BK2.out 0).trans rfl; have h2_1_w4 : w4.cell? ⟨g2, 1, none⟩ = some (.int .i64 a0_1) := (blk_cell BK2.out 1).trans rfl) | (go_at_call 36; refine (impl_isBar.calls _ _ _ _ HI.out).mono ?_; rintro e w6 ⟨rfl, hb⟩; have n0_ := Aside0.mk (below_step HB.out hb); have n1_ := Aside0.mk (blk_below BK2.out hb); clear HB BK2 hb; have HB := n0_; have BK2 := n1_; clear n0_ n1_; have h2_0_w6 : w6.cell? ⟨g2, 0, none⟩ = some (.int .i64 a0_0) := (blk_cell BK2.out 0).trans rfl; have h2_1_w6 : w6.cell? ⟨g2, 1, none⟩ = some (.int .i64 a0_1) := (blk_cell BK2.out 1).trans rfl))
    go_ret3
    exact ⟨rfl, HB.out⟩
  | true =>
    rw [hg, if_pos rfl] at h
    rw [hg] at ISB
    have hgb := goodB_true hg
    obtain ⟨a, rfl⟩ : ∃ a : Nat, a0_0 = (a : Int) := ⟨a0_0.toNat, by omega⟩
    obtain ⟨b, rfl⟩ : ∃ b : Nat, a0_1 = (b : Int) := ⟨a0_1.toNat, by omega⟩
    rw [Int.toNat_natCast, Int.toNat_natCast] at h
    have ok : OkB (a, b) := ⟨by show 1 ≤ a; omega, by show a ≤ 12; omega, by show 1 ≤ b; omega, by show b ≤ 12; omega⟩
    have HI := Aside0.mk ISB
    have HSQ := Aside0.mk (squares_nat (a := a) (b := b) (by omega) (by omega))
    have hlen := eat_len ok
    obtain ⟨ab, hab⟩ : ∃ ab, arB (a, b) = ab := ⟨_, rfl⟩
    rw [show a * b = ab from hab] at HSQ
    rw [← Int.natCast_mul, show a * b = ab from hab, hab] at h
    have har := ok.area
    rw [hab] at har hlen
    have HOK := Aside0.mk ok
    by_cases h1 : (ab : Int) = 1
    · rw [if_pos h1] at h
      simp only [Option.some.injEq, Prod.mk.injEq] at h
      obtain ⟨rfl, rfl, rfl⟩ := h
      have e1 : ((ab : Int) == 1) = true := beq_iff_eq.2 h1
      clear har hab hlen ok hgb hg ISB h1
      go_enter Try.func20, Try.ntmps20
      go_wp2_with (first | ((with_reducible refine gate_dst (N := 1) rfl ?_); refine box_event ?hg (N := 1) ?hd (cs := #[.int .i64 (a : Int), .int .i64 (b : Int)]) (t := 26) ?hr ?_; (case hd => rfl); (case hg => rfl); (case hr => first | (go_simp; done) | (go_simp; rfl)); intro g2 hg w4 hbox hb; have BK2 := Aside0.mk hbox; have n0_ := Aside0.mk (below_step HB.out hb); clear HB hb hbox hg; have HB := n0_; clear n0_; have h2_0_w4 : w4.cell? ⟨g2, 0, none⟩ = some (.int .i64 (a : Int)) := (blk_cell BK2.out 0).trans rfl; have h2_1_w4 : w4.cell? ⟨g2, 1, none⟩ = some (.int .i64 (b : Int)) := (blk_cell BK2.out 1).trans rfl) | (go_at_call 36; refine (impl_isBar.calls _ _ _ _ HI.out).mono ?_; rintro e w6 ⟨rfl, hb⟩; have n0_ := Aside0.mk (below_step HB.out hb); have n1_ := Aside0.mk (blk_below BK2.out hb); clear HB BK2 hb; have HB := n0_; have BK2 := n1_; clear n0_ n1_; have h2_0_w6 : w6.cell? ⟨g2, 0, none⟩ = some (.int .i64 (a : Int)) := (blk_cell BK2.out 0).trans rfl; have h2_1_w6 : w6.cell? ⟨g2, 1, none⟩ = some (.int .i64 (b : Int)) := (blk_cell BK2.out 1).trans rfl) | (go_at_call 38; refine (impl_Bar_squares.calls _ _ _ _ HSQ.out).mono ?_; rintro e w7 ⟨rfl, hb⟩; have n0_ := Aside0.mk (below_step HB.out hb); have n1_ := Aside0.mk (blk_below BK2.out hb); clear HB BK2 hb; have HB := n0_; have BK2 := n1_; clear n0_ n1_; have h2_0_w7 : w7.cell? ⟨g2, 0, none⟩ = some (.int .i64 (a : Int)) := (blk_cell BK2.out 0).trans rfl; have h2_1_w7 : w7.cell? ⟨g2, 1, none⟩ = some (.int .i64 (b : Int)) := (blk_cell BK2.out 1).trans rfl))
      go_ret3
      exact ⟨rfl, HB.out⟩
    · rw [if_neg h1] at h
      have e1 : ((ab : Int) == 1) = false := beq_eq_false_iff_ne.2 h1
      obtain ⟨el, hel⟩ : ∃ z, eat (a, b) = z := ⟨_, rfl⟩
      have HEL := Aside0.mk hel
      rw [hel] at h hlen
      obtain ⟨mid, hmid⟩ : ∃ z, seg el 1 (ab - 1) = z := ⟨_, rfl⟩
      have HMID := Aside0.mk hmid
      have hml : mid.length = ab - 1 := by rw [← hmid, seg_len _ _ _ (by omega)]
      have HML := Aside0.mk hml
      rw [hmid] at h
      have hmem : minL mid ∈ mid := minUp_mem mid _ (by omega)
      obtain ⟨ki, hki⟩ := pos_ev mid (minL mid) (by omega) hmem
      have HIX := Aside0.mk (hki ki (Nat.le_refl _))
      have hpl : posL mid (minL mid) < mid.length := List.findIdx_lt_length_of_exists ⟨_, hmem, by simp⟩
      obtain ⟨ps, hps⟩ : ∃ z, posL mid (minL mid) = z := ⟨_, rfl⟩
      rw [hps] at h HIX hpl
      obtain ⟨mv, hmv⟩ : ∃ z, minL mid = z := ⟨_, rfl⟩
      rw [hmv] at h HIX
      have HMV := Aside0.mk hmv
      simp only [Option.some.injEq, Prod.mk.injEq] at h
      obtain ⟨hr1, rfl, rfl⟩ := h
      obtain ⟨la, hla⟩ : ∃ la, ab + 1 = la := ⟨_, rfl⟩
      have HLA := Aside0.mk (show arB (a, b) + 1 = la by omega)
      have HLB := Aside0.mk hla
      have H2 := Aside0.mk (show 2 ≤ ab ∧ ab ≤ 144 by omega)
      have k1 : (1 : Int) ≤ (ab : Int) := by omega
      have k2 : 1 ≤ ab := by omega
      have hps1 : ps ≤ 1000 := by omega
      have hb2 : wrap64 ((ps : Int) + 1) = r1 := (w64p ps hps1).trans hr1
      have hb1 : wrap64 ((la : Int) - 1) = (ab : Int) := w64q la ab hla H2.out.2
      have hb1W : IntKind.i64.wrap ((la : Int) - 1) = (ab : Int) := (i64_w _).trans hb1
      have hb2W : IntKind.i64.wrap ((ps : Int) + 1) = r1 := (i64_w _).trans hb2
      have hmk := fun W => run_makeMap (P := Try.prog) 54 W
      clear har hab hlen ok hgb hg ISB h1 hel hmid hml hmem hki hpl hps hmv hr1 hla
      go_enter Try.func20, Try.ntmps20
      go_wp2_with (first | ((with_reducible refine gate_dst (N := 1) rfl ?_); refine box_event ?hg (N := 1) ?hd (cs := #[.int .i64 (a : Int), .int .i64 (b : Int)]) (t := 26) ?hr ?_; (case hd => rfl); (case hg => rfl); (case hr => first | (go_simp; done) | (go_simp; rfl)); intro g2 hg w4 hbox hb; have BK2 := Aside0.mk hbox; have n0_ := Aside0.mk (below_step HB.out hb); clear HB hb hbox hg; have HB := n0_; clear n0_; have h2_0_w4 : w4.cell? ⟨g2, 0, none⟩ = some (.int .i64 (a : Int)) := (blk_cell BK2.out 0).trans rfl; have h2_1_w4 : w4.cell? ⟨g2, 1, none⟩ = some (.int .i64 (b : Int)) := (blk_cell BK2.out 1).trans rfl) | (go_at_call 36; refine (impl_isBar.calls _ _ _ _ HI.out).mono ?_; rintro e w6 ⟨rfl, hb⟩; have n0_ := Aside0.mk (below_step HB.out hb); have n1_ := Aside0.mk (blk_below BK2.out hb); clear HB BK2 hb; have HB := n0_; have BK2 := n1_; clear n0_ n1_; have h2_0_w6 : w6.cell? ⟨g2, 0, none⟩ = some (.int .i64 (a : Int)) := (blk_cell BK2.out 0).trans rfl; have h2_1_w6 : w6.cell? ⟨g2, 1, none⟩ = some (.int .i64 (b : Int)) := (blk_cell BK2.out 1).trans rfl) | (go_at_call 38; refine (impl_Bar_squares.calls _ _ _ _ HSQ.out).mono ?_; rintro e w7 ⟨rfl, hb⟩; have n0_ := Aside0.mk (below_step HB.out hb); have n1_ := Aside0.mk (blk_below BK2.out hb); clear HB BK2 hb; have HB := n0_; have BK2 := n1_; clear n0_ n1_; have h2_0_w7 : w7.cell? ⟨g2, 0, none⟩ = some (.int .i64 (a : Int)) := (blk_cell BK2.out 0).trans rfl; have h2_1_w7 : w7.cell? ⟨g2, 1, none⟩ = some (.int .i64 (b : Int)) := (blk_cell BK2.out 1).trans rfl; have h2_0a_w7 : ∀ o : Obj, (w7.alloc o).cell? ⟨g2, 0, none⟩ = some (.int .i64 (a : Int)) := fun o => (blk_cell (old_allocM BK2.out o) 0).trans rfl; have h2_1a_w7 : ∀ o : Obj, (w7.alloc o).cell? ⟨g2, 1, none⟩ = some (.int .i64 (b : Int)) := fun o => (blk_cell (old_allocM BK2.out o) 1).trans rfl) | (go_at_call 39; refine (eat_any (M := w7.heap.size) (w0 := w) (a + b) a b HOK.out (Nat.le_refl _) (fun _ => True) _ (fun _ _ => trivial) ?he_).mono ?_; (case he_ => exact ⟨below_alloc HB.out _, below_size HB.out, Memo.made _ _ _ _ _ _⟩); rintro e w9 ⟨g9, c9, rfl, hgr, henv, hrow⟩; rw [HLA.out] at hrow ⊢; rw [HEL.out] at hrow; have k3 : la ≤ c9 := (Kd.R_reads' hrow).2.1; have k4 : ab ≤ c9 := (by have := HLB.out; omega); have k5 : (ab : Int) ≤ (c9 : Int) := (by omega); have k6 : ¬ c9 = 1 := (by have := H2.out; omega); have hrc := (Kd.R_reads' hrow).2.2; rw [← (Kd.R_reads' hrow).1] at hrc; have HCR := Aside0.mk (C_seg hrc 1 (ab - 1) (by have := HLB.out; omega)); clear hrc; have n0_ := Aside0.mk henv.below; clear HB hgr henv hrow; have HB := n0_; clear n0_) | (go_at_call 45; (try rw [if_neg k6]); refine (min_calls (l := mid) HML.out (by have := H2.out; omega) (by have := H2.out; omega) _ _ _ ?hc_).mono ?_; (case hc_ => first | (rw [← HMID.out]; exact HCR.out) | (rw [← HMID.out]; simpa using HCR.out)); rintro e w10 ⟨rfl, hb⟩; rw [HMV.out]; have HCQ := Aside0.mk (Kd.C_below HCR.out hb); have n0_ := Aside0.mk (below_step HB.out hb); clear HB HCR hb; have HB := n0_; clear n0_) | (go_at_call 46; (try rw [if_neg k6]); refine (idx_call HML.out ki _ _ _ _ _ ?hc_ ?hl_ HIX.out).mono ?_; (case hc_ => first | (rw [← HMID.out]; exact HCQ.out) | (rw [← HMID.out]; simpa using HCQ.out)); (case hl_ => omega); rintro e w11 ⟨rfl, hd⟩; have n0_ := Aside0.mk (below_step HB.out hd.below); clear HB hd; have HB := n0_; clear n0_))
      go_ret3
      exact ⟨rfl, HB.out⟩
end Go.Proofs.Ythlnpbdjblocfaa.P
