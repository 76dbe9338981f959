/- impl.FirstToEat: what the call comes to. Conditions: as it states. -/
import Derived.Test.YthlnpbdjblocfaaOEat
import Derived.Test.YthlnpbdjblocfaaUBar
import Derived.Laws.EntriesVeiled
namespace Go.Proofs.Ythlnpbdjblocfaa.P
open Go.RowKit Go.Proofs.YthlnpbdjblocfaaW.PrintWords Go.Proofs.YthlnpbdjblocfaaW.PrintLast Go.Proofs.YthlnpbdjblocfaaW.PrintMore Go.Proofs.Ythlnpbdjblocfaa.Pure Go.Proofs.Ythlnpbdjblocfaa.Mem
set_option linter.unusedVariables false
set_option linter.unusedSimpArgs false
theorem old_allocF {W : World} {k : Nat} {o' : Obj} (h : W.heap[k]? = some o') (o : Obj) : (W.alloc o).heap[k]? = some o' := (Below.heap_alloc W o k (blk_lt h)).trans h
/-- Whether two parts of a break make so many squares at so little. -/
def hitI (sq le : Int) (f g : List Int) (t i : Nat) : Prop := i ≤ t ∧ t - i < g.length ∧ sq + rd f (i : Int) + rd g ((t - i : Nat) : Int) = le
instance (sq le : Int) (f g : List Int) (t i : Nat) : Decidable (hitI sq le f g t i) := by unfold hitI; infer_instance
def hitB (q : Br) (t : Nat) (le : Int) (c : Bool × Nat) : Bool := (List.range (eat (oneB q c)).length).any fun i => decide (hitI (sqB q c) le (eat (oneB q c)) (eat (twoB q c)) t i)
def firstR (q : Br) (t : Nat) : Bool × Int × Bool := match (cuts q.1 q.2).find? (hitB q t (rd (eat q) (t : Int))) with
  | some c => (c.1, (c.2 : Int), true)
  | none => (false, 0, false)
def impl_FirstToEat.f (a0_0 : Int) (a0_1 : Int) (a1 : Int) : Option (Bool × Int × Bool) := if goodB a0_0 a0_1 = true then (if 1 ≤ a1 ∧ a1 ≤ a0_0 * a0_1 - 1 then some (firstR (a0_0.toNat, a0_1.toNat) a1.toNat) else some (false, 0, false)) else some (false, 0, false)
theorem find_hit {α : Type} {p : α → Bool} {cs : List α} {n : Nat} (hn : n < cs.length) (h : ∀ j (hj : j < cs.length), j < n → p cs[j] = false) (hp : p cs[n] = true) : cs.find? p = some cs[n] := by
  rw [List.find?_eq_some_iff_getElem]
  exact ⟨hp, n, hn, rfl, fun j hj => by have := h j (by omega) hj; simpa using this⟩
theorem find_none {α : Type} {p : α → Bool} {cs : List α} (h : ∀ j (hj : j < cs.length), p cs[j] = false) : cs.find? p = none := by
  rw [List.find?_eq_none]
  intro x hx
  obtain ⟨j, hj, rfl⟩ := List.mem_iff_getElem.1 hx
  rw [h j hj]
  decide
set_option maxHeartbeats 16000000 in
set_option maxRecDepth 100000 in
theorem impl_FirstToEat.calls (a0_0 : Int) (a0_1 : Int) (a1 : Int) (r1 : Bool) (r2 : Int) (r3 : Bool) (w : World) (h : impl_FirstToEat.f a0_0 a0_1 a1 = some (r1, r2, r3)) :
    Calls Try.prog 18 #[.agg #[.int .i64 a0_0, .int .i64 a0_1], .int .i64 a1] w fun e w' => e = .returned (.tuple #[.bool r1, .int .i64 r2, .bool r3]) ∧ Below w.heap.size w w' := by
  unfold impl_FirstToEat.f at h
  have ISB := isBar_some a0_0 a0_1
  have HB := Aside0.mk (Below.refl w.heap.size w)
  cases hg : goodB a0_0 a0_1 with
  | false =>
    rw [hg] at h ISB
    simp only [Bool.false_eq_true, if_false, Option.some.injEq, Prod.mk.injEq] at h
    obtain ⟨rfl, rfl, rfl⟩ := h
    have HI := Aside0.mk ISB
    clear ISB hg
    go_enter Try.func18, Try.ntmps18
    go_wp2_with (first | ((with_reducible refine gate_dst (N := 2) rfl ?_); refine box_event ?hg (N := 2) ?hd (cs := #[.int .i64 a0_0, .int .i64 a0_1]) (t := 26) ?hr ?_; (case hd => rfl); (case hg => rfl); (case hr => first | (go_simp; done) | (go_simp; rfl)); intro g2 hg w4 hbox hb; have BK2 := Aside0.mk hbox; have n0_ := Aside0.mk (below_step HB.out hb); clear HB hb hbox hg; have HB := n0_; clear n0_; have h2_0_w4 : w4.cell? ⟨g2, 0, none⟩ = some (.int .i64 a0_0) := (blk_cell BK2.out 0).trans rfl; have h2_1_w4 : w4.cell? ⟨g2, 1, none⟩ = some (.int .i64 a0_1) := (blk_cell BK2.out 1).trans rfl) | (go_at_call 36; refine (impl_isBar.calls _ _ _ _ HI.out).mono ?_; rintro e w6 ⟨rfl, hb⟩; have n0_ := Aside0.mk (below_step HB.out hb); have n1_ := Aside0.mk (blk_below BK2.out hb); clear HB BK2 hb; have HB := n0_; have BK2 := n1_; clear n0_ n1_; have h2_0_w6 : w6.cell? ⟨g2, 0, none⟩ = some (.int .i64 a0_0) := (blk_cell BK2.out 0).trans rfl; have h2_1_w6 : w6.cell? ⟨g2, 1, none⟩ = some (.int .i64 a0_1) := (blk_cell BK2.out 1).trans rfl))
    go_ret3
    exact ⟨rfl, HB.out⟩
  | true =>
    rw [hg, if_pos rfl] at h
    rw [hg] at ISB
    have hgb := goodB_true hg
    obtain ⟨a, rfl⟩ : ∃ a : Nat, a0_0 = (a : Int) := ⟨a0_0.toNat, by omega⟩
    obtain ⟨b, rfl⟩ : ∃ b : Nat, a0_1 = (b : Int) := ⟨a0_1.toNat, by omega⟩
    rw [Int.toNat_natCast, Int.toNat_natCast] at h
    have ok : OkB (a, b) := ⟨by show 1 ≤ a; omega, by show a ≤ 12; omega, by show 1 ≤ b; omega, by show b ≤ 12; omega⟩
    have HI := Aside0.mk ISB
    have HSQ := Aside0.mk (squares_nat (a := a) (b := b) (by omega) (by omega))
    obtain ⟨kc, hkc⟩ := cuts_ev a b (by omega) (by omega) (by omega) (by omega)
    have HCU := Aside0.mk (hkc kc (Nat.le_refl _))
    obtain ⟨ab, hab⟩ : ∃ ab, arB (a, b) = ab := ⟨_, rfl⟩
    rw [show a * b = ab from hab] at HSQ
    rw [← Int.natCast_mul, show a * b = ab from hab] at h
    have har := ok.area
    rw [hab] at har
    have WI := within_some a1 1 ((ab : Int) - 1)
    have HOK := Aside0.mk ok
    have HAR := Aside0.mk har
    have hm1 : wrap64 ((ab : Int) - 1) = (ab : Int) - 1 := w64 (by omega) (by omega)
    have hm1W : IntKind.i64.wrap ((ab : Int) - 1) = (ab : Int) - 1 := (i64_w _).trans hm1
    have M1 := Aside0.mk (And.intro hm1 hm1W)
    clear hm1 hm1W
    by_cases hin : 1 ≤ a1 ∧ a1 ≤ (ab : Int) - 1
    · rw [if_pos hin] at h
      rw [decide_eq_true hin] at WI
      have HWI := Aside0.mk WI
      obtain ⟨t, rfl⟩ : ∃ t : Nat, a1 = (t : Int) := ⟨a1.toNat, by omega⟩
      rw [Int.toNat_natCast] at h
      obtain ⟨le, hle⟩ : ∃ z, rd (eat (a, b)) (t : Int) = z := ⟨_, rfl⟩
      have HRD := Aside0.mk hle
      obtain ⟨la, hla⟩ : ∃ la, ab + 1 = la := ⟨_, rfl⟩
      have HLA := Aside0.mk (show arB (a, b) + 1 = la by omega)
      have HT := Aside0.mk (show 1 ≤ t ∧ t < ab ∧ ab ≤ 144 by omega)
      have HAB := Aside0.mk hab
      have t0 : (0 : Int) ≤ (t : Int) := by omega
      have t1 : (t : Int) < (la : Int) := by omega
      have t2 : t < la := by omega
      obtain ⟨cs, hcs⟩ : ∃ cs, cuts a b = cs := ⟨_, rfl⟩
      rw [hcs] at HCU
      have hfr : firstR (a, b) t = match cs.find? (hitB (a, b) t le) with
        | some c => (c.1, (c.2 : Int), true)
        | none => (false, 0, false) := by unfold firstR; rw [show cuts (a, b).1 (a, b).2 = cs from hcs, hle]
      have HFR := Aside0.mk ((hfr.symm.trans (Option.some.inj h)))
      have HCS := Aside0.mk hcs
      have HCL := Aside0.mk (show cs.length ≤ 100 by rw [← hcs, cuts_len]; omega)
      have hmk := fun W => run_makeMap (P := Try.prog) 54 W
      clear WI hin hle hla har hab ok hgb hg ISB hkc hcs hfr h
      have hm1 := M1.out.1
      have hm1W := M1.out.2
      go_enter Try.func18, Try.ntmps18
      go_wp2_with (first | ((with_reducible refine gate_dst (N := 2) rfl ?_); refine box_event ?hg (N := 2) ?hd (cs := #[.int .i64 (a : Int), .int .i64 (b : Int)]) (t := 26) ?hr ?_; (case hd => rfl); (case hg => rfl); (case hr => first | (go_simp; done) | (go_simp; rfl)); intro g2 hg w4 hbox hb; have BK2 := Aside0.mk hbox; have n0_ := Aside0.mk (below_step HB.out hb); clear HB hb hbox hg; have HB := n0_; clear n0_; have h2_0_w4 : w4.cell? ⟨g2, 0, none⟩ = some (.int .i64 (a : Int)) := (blk_cell BK2.out 0).trans rfl; have h2_1_w4 : w4.cell? ⟨g2, 1, none⟩ = some (.int .i64 (b : Int)) := (blk_cell BK2.out 1).trans rfl) | (go_at_call 36; refine (impl_isBar.calls _ _ _ _ HI.out).mono ?_; rintro e w6 ⟨rfl, hb⟩; have n0_ := Aside0.mk (below_step HB.out hb); have n1_ := Aside0.mk (blk_below BK2.out hb); clear HB BK2 hb; have HB := n0_; have BK2 := n1_; clear n0_ n1_; have h2_0_w6 : w6.cell? ⟨g2, 0, none⟩ = some (.int .i64 (a : Int)) := (blk_cell BK2.out 0).trans rfl; have h2_1_w6 : w6.cell? ⟨g2, 1, none⟩ = some (.int .i64 (b : Int)) := (blk_cell BK2.out 1).trans rfl) | (go_at_call 38; refine (impl_Bar_squares.calls _ _ _ _ HSQ.out).mono ?_; rintro e w7 ⟨rfl, hb⟩; have n0_ := Aside0.mk (below_step HB.out hb); have n1_ := Aside0.mk (blk_below BK2.out hb); clear HB BK2 hb; have HB := n0_; have BK2 := n1_; clear n0_ n1_; have h2_0_w7 : w7.cell? ⟨g2, 0, none⟩ = some (.int .i64 (a : Int)) := (blk_cell BK2.out 0).trans rfl; have h2_1_w7 : w7.cell? ⟨g2, 1, none⟩ = some (.int .i64 (b : Int)) := (blk_cell BK2.out 1).trans rfl) | (go_at_call 37; refine (impl_within.calls _ _ _ _ _ HWI.out).mono ?_; rintro e w8 ⟨rfl, hd⟩; have hb := hd.below; clear hd; have n0_ := Aside0.mk (below_step HB.out hb); have n1_ := Aside0.mk (blk_below BK2.out hb); clear HB BK2 hb; have HB := n0_; have BK2 := n1_; clear n0_ n1_; have h2_0_w8 : w8.cell? ⟨g2, 0, none⟩ = some (.int .i64 (a : Int)) := (blk_cell BK2.out 0).trans rfl; have h2_1_w8 : w8.cell? ⟨g2, 1, none⟩ = some (.int .i64 (b : Int)) := (blk_cell BK2.out 1).trans rfl; have h2_0a_w8 : ∀ o : Obj, (w8.alloc o).cell? ⟨g2, 0, none⟩ = some (.int .i64 (a : Int)) := fun o => (blk_cell (old_allocF BK2.out o) 0).trans rfl; have h2_1a_w8 : ∀ o : Obj, (w8.alloc o).cell? ⟨g2, 1, none⟩ = some (.int .i64 (b : Int)) := fun o => (blk_cell (old_allocF BK2.out o) 1).trans rfl) | (go_at_call 39; refine (eat_any (M := w8.heap.size) (w0 := w) (a + b) a b HOK.out (Nat.le_refl _) (fun _ => True) _ (fun _ _ => trivial) ?he_).mono ?_; (case he_ => exact ⟨below_alloc HB.out _, below_size HB.out, Memo.made _ _ _ _ _ _⟩); rintro e w9 ⟨g9, c9, rfl, hgr, henv, hrow⟩; rw [HLA.out] at hrow ⊢; have hcx := (cell_rd hrow t (by omega)).1; rw [HRD.out] at hcx; have HM := Aside0.mk henv; have BK2n := Aside0.mk (blk_grown (g := g2) (o := .cells #[.int .i64 (a : Int), .int .i64 (b : Int)] 26 (0, 0)) (old_allocF BK2.out _) hgr (fun e => Nat.ne_of_lt (blk_lt BK2.out) (Option.some.inj e))); clear HB BK2 hgr henv hrow; have BK2 := BK2n; clear BK2n; have h2_0_w9 : w9.cell? ⟨g2, 0, none⟩ = some (.int .i64 (a : Int)) := (blk_cell BK2.out 0).trans rfl; have f2_0_w9 : w9.frozen? ⟨g2, 0, none⟩ = false := blk_frozen BK2.out 0; have h2_1_w9 : w9.cell? ⟨g2, 1, none⟩ = some (.int .i64 (b : Int)) := (blk_cell BK2.out 1).trans rfl; have f2_1_w9 : w9.frozen? ⟨g2, 1, none⟩ = false := blk_frozen BK2.out 1) | ((go_at_call 42; refine (impl_Bar_cuts.calls kc _ _ _ _ HCU.out).mono ?_; rintro e w5 ⟨vr, rfl, hro, hb⟩; obtain ⟨Ar, cr, er⟩ := Kd.R_slice hro; rw [List.length_map] at er; subst er; have HO := Aside0.mk (Kd.R_lower hro (Nat.zero_le _)); have n0_ := Aside0.mk (en_below HM.out hb); have n1_ := Aside0.mk (blk_below BK2.out hb); clear HM BK2 hb hro; have HM := n0_; have BK2 := n1_; clear n0_ n1_)))
      clear hm1 hm1W t0 t1 t2
      try clear hcx
      obtain ⟨M, hMM⟩ : ∃ M, w8.heap.size = M := ⟨_, rfl⟩
      rw [hMM] at HM ⊢
      clear hmk
      have HSZ := Aside0.mk (show w.heap.size ≤ w5.heap.size from below_size HM.out.below)
      have HM5 := HM
      have HO5 := HO
      have BK25 := BK2
      have N2M := Aside0.mk (HM.out.mem.ne BK2.out)
      clear HO BK2
      try clear h2_0_w4 f2_0_w4
      try clear h2_1_w4 f2_1_w4
      try clear h2_0_w6 f2_0_w6
      try clear h2_1_w6 f2_1_w6
      try clear h2_0_w7 f2_0_w7
      try clear h2_1_w7 f2_1_w7
      try clear h2_0_w8 f2_0_w8
      try clear h2_1_w8 f2_1_w8
      try clear h2_0_w9 f2_0_w9
      try clear h2_1_w9 f2_1_w9
      try clear h2_0_w5 f2_0_w5
      try clear h2_1_w5 f2_1_w5
      try clear h2_0_w4
      try clear h2_1_w4
      try clear h2_0_w6
      try clear h2_1_w6
      try clear h2_0_w7
      try clear h2_1_w7
      try clear h2_0_w8
      try clear h2_1_w8
      try clear h2_0_w9
      try clear h2_1_w9
      try clear h2_0a_w8 h2_1a_w8
      go_loopg [41] (cs.length + 1) (fun kq v41 w' => ∃ n : Nat, v41 = .int .i64 (n : Int) ∧ Aside0 (n ≤ cs.length) ∧ Aside0 (cs.length - n ≤ kq) ∧ Aside0 (Kept w5 w' (fun k => k = M)) ∧ Aside0 (EatEnv M w (fun _ => True) w') ∧ Aside0 (∀ j (hj : j < cs.length), j < n → hitB (a, b) t le cs[j] = false))
      case atStart => exact ⟨0, rfl, ⟨Nat.zero_le _⟩, ⟨by omega⟩, ⟨Kept.refl _ _⟩, HM5, ⟨fun j hj h => absurd h (Nat.not_lt_zero _)⟩⟩
      case round =>
        clear HM
        obtain ⟨n, rfl, hn, hq, HQ, HM, HNO⟩ := hrel
        have BK2 := Aside0.mk (blk_kept BK25.out HQ.out N2M.out)
        have h2_0_wr : wr.cell? ⟨g2, 0, none⟩ = some (.int .i64 (a : Int)) := (blk_cell BK2.out 0).trans rfl
        have f2_0_wr : wr.frozen? ⟨g2, 0, none⟩ = false := blk_frozen BK2.out 0
        have h2_1_wr : wr.cell? ⟨g2, 1, none⟩ = some (.int .i64 (b : Int)) := (blk_cell BK2.out 1).trans rfl
        have f2_1_wr : wr.frozen? ⟨g2, 1, none⟩ = false := blk_frozen BK2.out 1
        by_cases hlt : n < cs.length
        · have c0 : decide ((n : Int) < (cs.length : Int)) = true := decide_eq_true (by omega)
          have c00 : decide (n < cs.length) = true := decide_eq_true hlt
          have p0 : (0 : Int) ≤ (n : Int) := by omega
          have q0 : (n : Int) < (cs.length : Int) := by omega
          have q00 : n < cs.length := hlt
          have hrowc := Kd.R_kept (Kd.R_bound HO5.out) HQ.out (fun k hk e => by
            obtain ⟨_, _, _, q, hq2, cells, hc⟩ := hk
            exact HM5.out.mem.ne hc e)
          obtain ⟨ad, ead, hx0, hx1⟩ := at_T60 (Kd.R_reads' hrowc).2.2 (n : Int) (by omega) (by rw [List.length_map]; omega)
          subst ead
          rw [rd_cuts _ n hlt] at hx0 hx1
          rw [Int.toNat_natCast] at hx0 hx1
          have hmem : cs[n] ∈ cs := List.getElem_mem hlt
          obtain ⟨⟨v, p⟩, hvp⟩ : ∃ c, cs[n] = c := ⟨_, rfl⟩
          rw [hvp] at hx0 hx1 hmem
          have HVP := Aside0.mk hvp
          replace hx0 : wr.cell? (ad.add (n * 2)) = some (.bool v) := hx0
          replace hx1 : wr.cell? ⟨(ad.add (n * 2)).block, (ad.add (n * 2)).off + 1, none⟩ = some (.int .i64 (p : Int)) := hx1
          rw [← HCS.out] at hmem
          have BR := broken_bar HOK.out hmem
          have I1 := HOK.out.one hmem
          have I2 := HOK.out.two hmem
          have SPL := ar_split (q := (a, b)) hmem
          have SQB := sqB_bd HOK.out (v, p)
          have HLN := Aside0.mk (line_some a b v p)
          have hhit : hitB (a, b) t le (v, p) = (List.range (eat (oneB (a, b) (v, p))).length).any fun i => decide (hitI (sqB (a, b) (v, p)) le (eat (oneB (a, b) (v, p))) (eat (twoB (a, b) (v, p))) t i) := rfl
          have hsqd : sqB (a, b) (v, p) = ((lnB (a, b) (v, p) * lnB (a, b) (v, p) : Nat) : Int) := rfl
          obtain ⟨ln, hln⟩ : ∃ z, lnB (a, b) (v, p) = z := ⟨_, rfl⟩
          rw [hln] at HLN hsqd
          obtain ⟨sq, hsq⟩ : ∃ z, sqB (a, b) (v, p) = z := ⟨_, rfl⟩
          rw [hsq] at SQB hsqd hhit
          obtain ⟨⟨a1, b1⟩, hq1⟩ : ∃ q, oneB (a, b) (v, p) = q := ⟨_, rfl⟩
          obtain ⟨⟨a2, b2⟩, hq2⟩ : ∃ q, twoB (a, b) (v, p) = q := ⟨_, rfl⟩
          rw [hq1] at BR I1 SPL hhit
          rw [hq2] at BR I2 SPL hhit
          have BD1 := eat_bd I1.1
          have BD2 := eat_bd I2.1
          have AR1 := I1.1.area
          have AR2 := I2.1.area
          have LN1 := eat_len I1.1
          have LN2 := eat_len I2.1
          obtain ⟨f1, hf1⟩ : ∃ z, eat (a1, b1) = z := ⟨_, rfl⟩
          obtain ⟨f2, hf2⟩ : ∃ z, eat (a2, b2) = z := ⟨_, rfl⟩
          obtain ⟨lf, hlf⟩ : ∃ z, arB (a1, b1) + 1 = z := ⟨_, rfl⟩
          obtain ⟨ls, hls⟩ : ∃ z, arB (a2, b2) + 1 = z := ⟨_, rfl⟩
          rw [hf1] at BD1 LN1 hhit
          rw [hf2] at BD2 LN2 hhit
          rw [hlf] at LN1
          rw [hls] at LN2
          rw [LN1] at hhit
          have HHIT := Aside0.mk hhit
          have HF1 := Aside0.mk hf1
          have HF2 := Aside0.mk hf2
          have HLF := Aside0.mk hlf
          have HLS := Aside0.mk hls
          have B1 := Aside0.mk (show Bd 20592 f1 ∧ Bd 20592 f2 from ⟨fun x hx => ⟨(BD1 x hx).1, by have := (BD1 x hx).2; unfold topE at this; omega⟩, fun x hx => ⟨(BD2 x hx).1, by have := (BD2 x hx).2; unfold topE at this; omega⟩⟩)
          have HSP := Aside0.mk (show 2 ≤ lf ∧ 2 ≤ ls ∧ lf ≤ 145 ∧ ls ≤ 145 by omega)
          have HML := Aside0.mk (show wrap64 ((ln : Int) * (ln : Int)) = sq by rw [hsqd, Int.natCast_mul, w64 (by rw [← Int.natCast_mul, ← hsqd]; omega) (by rw [← Int.natCast_mul, ← hsqd]; omega)])
          have HSQB := Aside0.mk SQB
          have LL := Aside0.mk (And.intro LN1 LN2)
          have J1 := Aside0.mk I1.1
          have J2 := Aside0.mk I2.1
          have HBR := Aside0.mk BR
          have HLT := Aside0.mk hlt
          have HQQ := Aside0.mk (show cs.length - (n + 1) ≤ gk - 1 ∧ 0 < gk by have := hq.out; omega)
          clear hhit I1 I2 BR hq1 hq2 hmem hvp hlt hn hq AR1 AR2 SPL SQB hsqd hsq hln BD1 BD2 LN1 LN2 hf1 hf2 hlf hls
          go_wp2_with (first | ((with_reducible refine gate_dst (N := 10) rfl ?_); refine box_event ?hg (N := 10) ?hd (cs := #[.bool false, .int .i64 0]) (t := 60) ?hr ?_; (case hd => rfl); (case hg => rfl); (case hr => first | (go_simp; done) | (go_simp; rfl)); intro g10 hg w6 hbox hb; have GE10 := Aside0.mk (show w5.heap.size ≤ g10 by rw [hg]; exact Nat.le_trans HQ.out.1 (below_size (by repeat (first | (with_reducible first | exact (Below.refl wr.heap.size wr) | apply below_alloc | apply pw_below_drewN | apply below_drew1) | exact (Below.refl wr.heap.size wr)) : Below wr.heap.size wr _))); have NB2_10 := Aside0.mk (show g2 ≠ g10 by rw [hg]; exact Nat.ne_of_lt (Nat.lt_of_lt_of_le (blk_lt BK2.out) (below_size (by repeat (first | (with_reducible first | exact (Below.refl wr.heap.size wr) | apply below_alloc | apply pw_below_drewN | apply below_drew1) | exact (Below.refl wr.heap.size wr)) : Below wr.heap.size wr _)))); have n9_ := Aside0.mk hbox; have hbw : Below wr.heap.size wr w6 := below_step (by repeat (first | (with_reducible first | exact (Below.refl wr.heap.size wr) | apply below_alloc | apply pw_below_drewN | apply below_drew1) | exact (Below.refl wr.heap.size wr)) : Below wr.heap.size wr _) hb; have n0_ := Aside0.mk (Kept.below HQ.out hbw); have n1_ := Aside0.mk (en_below HM.out hbw); have n2_ := Aside0.mk (blk_below BK2.out hbw); clear HQ HM BK2; have HQ := n0_; have HM := n1_; have BK2 := n2_; clear n0_ n1_ n2_; clear hb hbw; have h2_0_w6 : w6.cell? ⟨g2, 0, none⟩ = some (.int .i64 (a : Int)) := (blk_cell BK2.out 0).trans rfl; have f2_0_w6 : w6.frozen? ⟨g2, 0, none⟩ = false := blk_frozen BK2.out 0; have h2_1_w6 : w6.cell? ⟨g2, 1, none⟩ = some (.int .i64 (b : Int)) := (blk_cell BK2.out 1).trans rfl; have f2_1_w6 : w6.frozen? ⟨g2, 1, none⟩ = false := blk_frozen BK2.out 1; have BK10 := n9_; clear n9_ hbox hg; have h10_0_w6 : w6.cell? ⟨g10, 0, none⟩ = some (.bool false) := (blk_cell BK10.out 0).trans rfl; have f10_0_w6 : w6.frozen? ⟨g10, 0, none⟩ = false := blk_frozen BK10.out 0; have h10_1_w6 : w6.cell? ⟨g10, 1, none⟩ = some (.int .i64 0) := (blk_cell BK10.out 1).trans rfl; have f10_1_w6 : w6.frozen? ⟨g10, 1, none⟩ = false := blk_frozen BK10.out 1) | ((with_reducible refine gate_store (t := 60) (p := 10) rfl ?_); refine store_event (t := 60) (p := 10) (v := ?vo_w7) (w1 := ((w6.setCell ⟨g10, 0, none⟩ (.bool v)).setCell ⟨g10, 1, none⟩ (.int .i64 (p : Int)))) ?hg ?ho ?hn ?hr ?_; (case ho => rfl); (case hg => rfl); (case hn => rfl); (case hr => first | (go_simp; done) | (go_simp; rfl)); intro w7 hw; have n0_ := Aside0.mk (show Kept w5 w7 (fun k => k = M) from (by rw [hw]; exact (Kept.setCell (Kept.setCell HQ.out (p := ⟨g10, 0, none⟩) (.inr GE10.out) _) (p := ⟨g10, 1, none⟩) (.inr GE10.out) _))); have n1_ := Aside0.mk (show EatEnv M w (fun _ => True) w7 from (by rw [hw]; exact (en_set (en_set HM.out BK10.out (by decide) (Nat.le_trans HSZ.out GE10.out) _ _) (blk_put (cs' := #[.bool v, .int .i64 0]) BK10.out 0 _ rfl) (by decide) (Nat.le_trans HSZ.out GE10.out) _ _))); have n2_ := Aside0.mk (show w7.heap[g10]? = some (.cells #[.bool v, .int .i64 (p : Int)] 60 (0, 0)) from (by rw [hw]; exact (blk_put (cs' := #[.bool v, .int .i64 (p : Int)]) (blk_put (cs' := #[.bool v, .int .i64 0]) BK10.out 0 _ rfl) 1 _ rfl))); have n3_ := Aside0.mk (show w7.heap[g2]? = some (.cells #[.int .i64 (a : Int), .int .i64 (b : Int)] 26 (0, 0)) from (by rw [hw]; exact (blk_far (blk_far BK2.out (p := ⟨g10, 0, none⟩) NB2_10.out _) (p := ⟨g10, 1, none⟩) NB2_10.out _))); clear HQ HM BK10 BK2; have HQ := n0_; have HM := n1_; have BK10 := n2_; have BK2 := n3_; clear n0_ n1_ n2_ n3_; clear hw; have h2_0_w7 : w7.cell? ⟨g2, 0, none⟩ = some (.int .i64 (a : Int)) := (blk_cell BK2.out 0).trans rfl; have f2_0_w7 : w7.frozen? ⟨g2, 0, none⟩ = false := blk_frozen BK2.out 0; have h2_1_w7 : w7.cell? ⟨g2, 1, none⟩ = some (.int .i64 (b : Int)) := (blk_cell BK2.out 1).trans rfl; have f2_1_w7 : w7.frozen? ⟨g2, 1, none⟩ = false := blk_frozen BK2.out 1; have h10_0_w7 : w7.cell? ⟨g10, 0, none⟩ = some (.bool v) := (blk_cell BK10.out 0).trans rfl; have f10_0_w7 : w7.frozen? ⟨g10, 0, none⟩ = false := blk_frozen BK10.out 0; have h10_1_w7 : w7.cell? ⟨g10, 1, none⟩ = some (.int .i64 (p : Int)) := (blk_cell BK10.out 1).trans rfl; have f10_1_w7 : w7.frozen? ⟨g10, 1, none⟩ = false := blk_frozen BK10.out 1) | ((go_at_call 43; refine (impl_Bar_broken.calls _ _ _ _ _ _ _ _ _ _ HBR.out).mono ?_; rintro e w8b ⟨rfl, hb⟩; have hbw : Below w7.heap.size w7 w8b := below_step (by repeat (first | (with_reducible first | exact (Below.refl w7.heap.size w7) | apply below_alloc | apply pw_below_drewN | apply below_drew1) | exact (Below.refl w7.heap.size w7)) : Below w7.heap.size w7 _) hb; have n0_ := Aside0.mk (Kept.below HQ.out hbw); have n1_ := Aside0.mk (en_below HM.out hbw); have n2_ := Aside0.mk (blk_below BK2.out hbw); have n3_ := Aside0.mk (blk_below BK10.out hbw); clear HQ HM BK2 BK10; have HQ := n0_; have HM := n1_; have BK2 := n2_; have BK10 := n3_; clear n0_ n1_ n2_ n3_; clear hb hbw; have h2_0_w8b : w8b.cell? ⟨g2, 0, none⟩ = some (.int .i64 (a : Int)) := (blk_cell BK2.out 0).trans rfl; have f2_0_w8b : w8b.frozen? ⟨g2, 0, none⟩ = false := blk_frozen BK2.out 0; have h2_1_w8b : w8b.cell? ⟨g2, 1, none⟩ = some (.int .i64 (b : Int)) := (blk_cell BK2.out 1).trans rfl; have f2_1_w8b : w8b.frozen? ⟨g2, 1, none⟩ = false := blk_frozen BK2.out 1; have h10_0_w8b : w8b.cell? ⟨g10, 0, none⟩ = some (.bool v) := (blk_cell BK10.out 0).trans rfl; have f10_0_w8b : w8b.frozen? ⟨g10, 0, none⟩ = false := blk_frozen BK10.out 0; have h10_1_w8b : w8b.cell? ⟨g10, 1, none⟩ = some (.int .i64 (p : Int)) := (blk_cell BK10.out 1).trans rfl; have f10_1_w8b : w8b.frozen? ⟨g10, 1, none⟩ = false := blk_frozen BK10.out 1)) | ((with_reducible refine gate_dst (N := 11) rfl ?_); refine box_event ?hg (N := 11) ?hd (cs := #[.int .i64 0, .int .i64 0]) (t := 26) ?hr ?_; (case hd => rfl); (case hg => rfl); (case hr => first | (go_simp; done) | (go_simp; rfl)); intro g11 hg w9b hbox hb; have GE11 := Aside0.mk (show w5.heap.size ≤ g11 by rw [hg]; exact Nat.le_trans HQ.out.1 (below_size (by repeat (first | (with_reducible first | exact (Below.refl w8b.heap.size w8b) | apply below_alloc | apply pw_below_drewN | apply below_drew1) | exact (Below.refl w8b.heap.size w8b)) : Below w8b.heap.size w8b _))); have NB2_11 := Aside0.mk (show g2 ≠ g11 by rw [hg]; exact Nat.ne_of_lt (Nat.lt_of_lt_of_le (blk_lt BK2.out) (below_size (by repeat (first | (with_reducible first | exact (Below.refl w8b.heap.size w8b) | apply below_alloc | apply pw_below_drewN | apply below_drew1) | exact (Below.refl w8b.heap.size w8b)) : Below w8b.heap.size w8b _)))); have NB10_11 := Aside0.mk (show g10 ≠ g11 by rw [hg]; exact Nat.ne_of_lt (Nat.lt_of_lt_of_le (blk_lt BK10.out) (below_size (by repeat (first | (with_reducible first | exact (Below.refl w8b.heap.size w8b) | apply below_alloc | apply pw_below_drewN | apply below_drew1) | exact (Below.refl w8b.heap.size w8b)) : Below w8b.heap.size w8b _)))); have n9_ := Aside0.mk hbox; have hbw : Below w8b.heap.size w8b w9b := below_step (by repeat (first | (with_reducible first | exact (Below.refl w8b.heap.size w8b) | apply below_alloc | apply pw_below_drewN | apply below_drew1) | exact (Below.refl w8b.heap.size w8b)) : Below w8b.heap.size w8b _) hb; have n0_ := Aside0.mk (Kept.below HQ.out hbw); have n1_ := Aside0.mk (en_below HM.out hbw); have n2_ := Aside0.mk (blk_below BK2.out hbw); have n3_ := Aside0.mk (blk_below BK10.out hbw); clear HQ HM BK2 BK10; have HQ := n0_; have HM := n1_; have BK2 := n2_; have BK10 := n3_; clear n0_ n1_ n2_ n3_; clear hb hbw; have h2_0_w9b : w9b.cell? ⟨g2, 0, none⟩ = some (.int .i64 (a : Int)) := (blk_cell BK2.out 0).trans rfl; have f2_0_w9b : w9b.frozen? ⟨g2, 0, none⟩ = false := blk_frozen BK2.out 0; have h2_1_w9b : w9b.cell? ⟨g2, 1, none⟩ = some (.int .i64 (b : Int)) := (blk_cell BK2.out 1).trans rfl; have f2_1_w9b : w9b.frozen? ⟨g2, 1, none⟩ = false := blk_frozen BK2.out 1; have h10_0_w9b : w9b.cell? ⟨g10, 0, none⟩ = some (.bool v) := (blk_cell BK10.out 0).trans rfl; have f10_0_w9b : w9b.frozen? ⟨g10, 0, none⟩ = false := blk_frozen BK10.out 0; have h10_1_w9b : w9b.cell? ⟨g10, 1, none⟩ = some (.int .i64 (p : Int)) := (blk_cell BK10.out 1).trans rfl; have f10_1_w9b : w9b.frozen? ⟨g10, 1, none⟩ = false := blk_frozen BK10.out 1; have BK11 := n9_; clear n9_ hbox hg; have h11_0_w9b : w9b.cell? ⟨g11, 0, none⟩ = some (.int .i64 0) := (blk_cell BK11.out 0).trans rfl; have f11_0_w9b : w9b.frozen? ⟨g11, 0, none⟩ = false := blk_frozen BK11.out 0; have h11_1_w9b : w9b.cell? ⟨g11, 1, none⟩ = some (.int .i64 0) := (blk_cell BK11.out 1).trans rfl; have f11_1_w9b : w9b.frozen? ⟨g11, 1, none⟩ = false := blk_frozen BK11.out 1) | ((with_reducible refine gate_dst (N := 12) rfl ?_); refine box_event ?hg (N := 12) ?hd (cs := #[.int .i64 0, .int .i64 0]) (t := 26) ?hr ?_; (case hd => rfl); (case hg => rfl); (case hr => first | (go_simp; done) | (go_simp; rfl)); intro g12 hg w10 hbox hb; have GE12 := Aside0.mk (show w5.heap.size ≤ g12 by rw [hg]; exact Nat.le_trans HQ.out.1 (below_size (by repeat (first | (with_reducible first | exact (Below.refl w9b.heap.size w9b) | apply below_alloc | apply pw_below_drewN | apply below_drew1) | exact (Below.refl w9b.heap.size w9b)) : Below w9b.heap.size w9b _))); have NB2_12 := Aside0.mk (show g2 ≠ g12 by rw [hg]; exact Nat.ne_of_lt (Nat.lt_of_lt_of_le (blk_lt BK2.out) (below_size (by repeat (first | (with_reducible first | exact (Below.refl w9b.heap.size w9b) | apply below_alloc | apply pw_below_drewN | apply below_drew1) | exact (Below.refl w9b.heap.size w9b)) : Below w9b.heap.size w9b _)))); have NB10_12 := Aside0.mk (show g10 ≠ g12 by rw [hg]; exact Nat.ne_of_lt (Nat.lt_of_lt_of_le (blk_lt BK10.out) (below_size (by repeat (first | (with_reducible first | exact (Below.refl w9b.heap.size w9b) | apply below_alloc | apply pw_below_drewN | apply below_drew1) | exact (Below.refl w9b.heap.size w9b)) : Below w9b.heap.size w9b _)))); have NB11_12 := Aside0.mk (show g11 ≠ g12 by rw [hg]; exact Nat.ne_of_lt (Nat.lt_of_lt_of_le (blk_lt BK11.out) (below_size (by repeat (first | (with_reducible first | exact (Below.refl w9b.heap.size w9b) | apply below_alloc | apply pw_below_drewN | apply below_drew1) | exact (Below.refl w9b.heap.size w9b)) : Below w9b.heap.size w9b _)))); have n9_ := Aside0.mk hbox; have hbw : Below w9b.heap.size w9b w10 := below_step (by repeat (first | (with_reducible first | exact (Below.refl w9b.heap.size w9b) | apply below_alloc | apply pw_below_drewN | apply below_drew1) | exact (Below.refl w9b.heap.size w9b)) : Below w9b.heap.size w9b _) hb; have n0_ := Aside0.mk (Kept.below HQ.out hbw); have n1_ := Aside0.mk (en_below HM.out hbw); have n2_ := Aside0.mk (blk_below BK2.out hbw); have n3_ := Aside0.mk (blk_below BK10.out hbw); have n4_ := Aside0.mk (blk_below BK11.out hbw); clear HQ HM BK2 BK10 BK11; have HQ := n0_; have HM := n1_; have BK2 := n2_; have BK10 := n3_; have BK11 := n4_; clear n0_ n1_ n2_ n3_ n4_; clear hb hbw; have h2_0_w10 : w10.cell? ⟨g2, 0, none⟩ = some (.int .i64 (a : Int)) := (blk_cell BK2.out 0).trans rfl; have f2_0_w10 : w10.frozen? ⟨g2, 0, none⟩ = false := blk_frozen BK2.out 0; have h2_1_w10 : w10.cell? ⟨g2, 1, none⟩ = some (.int .i64 (b : Int)) := (blk_cell BK2.out 1).trans rfl; have f2_1_w10 : w10.frozen? ⟨g2, 1, none⟩ = false := blk_frozen BK2.out 1; have h10_0_w10 : w10.cell? ⟨g10, 0, none⟩ = some (.bool v) := (blk_cell BK10.out 0).trans rfl; have f10_0_w10 : w10.frozen? ⟨g10, 0, none⟩ = false := blk_frozen BK10.out 0; have h10_1_w10 : w10.cell? ⟨g10, 1, none⟩ = some (.int .i64 (p : Int)) := (blk_cell BK10.out 1).trans rfl; have f10_1_w10 : w10.frozen? ⟨g10, 1, none⟩ = false := blk_frozen BK10.out 1; have h11_0_w10 : w10.cell? ⟨g11, 0, none⟩ = some (.int .i64 0) := (blk_cell BK11.out 0).trans rfl; have f11_0_w10 : w10.frozen? ⟨g11, 0, none⟩ = false := blk_frozen BK11.out 0; have h11_1_w10 : w10.cell? ⟨g11, 1, none⟩ = some (.int .i64 0) := (blk_cell BK11.out 1).trans rfl; have f11_1_w10 : w10.frozen? ⟨g11, 1, none⟩ = false := blk_frozen BK11.out 1; have BK12 := n9_; clear n9_ hbox hg; have h12_0_w10 : w10.cell? ⟨g12, 0, none⟩ = some (.int .i64 0) := (blk_cell BK12.out 0).trans rfl; have f12_0_w10 : w10.frozen? ⟨g12, 0, none⟩ = false := blk_frozen BK12.out 0; have h12_1_w10 : w10.cell? ⟨g12, 1, none⟩ = some (.int .i64 0) := (blk_cell BK12.out 1).trans rfl; have f12_1_w10 : w10.frozen? ⟨g12, 1, none⟩ = false := blk_frozen BK12.out 1) | ((with_reducible refine gate_store (t := 26) (p := 11) rfl ?_); refine store_event (t := 26) (p := 11) (v := ?vo_w11) (w1 := ((w10.setCell ⟨g11, 0, none⟩ (.int .i64 (a1 : Int))).setCell ⟨g11, 1, none⟩ (.int .i64 (b1 : Int)))) ?hg ?ho ?hn ?hr ?_; (case ho => rfl); (case hg => rfl); (case hn => rfl); (case hr => first | (go_simp; done) | (go_simp; rfl)); intro w11 hw; have n0_ := Aside0.mk (show Kept w5 w11 (fun k => k = M) from (by rw [hw]; exact (Kept.setCell (Kept.setCell HQ.out (p := ⟨g11, 0, none⟩) (.inr GE11.out) _) (p := ⟨g11, 1, none⟩) (.inr GE11.out) _))); have n1_ := Aside0.mk (show EatEnv M w (fun _ => True) w11 from (by rw [hw]; exact (en_set (en_set HM.out BK11.out (by decide) (Nat.le_trans HSZ.out GE11.out) _ _) (blk_put (cs' := #[.int .i64 (a1 : Int), .int .i64 0]) BK11.out 0 _ rfl) (by decide) (Nat.le_trans HSZ.out GE11.out) _ _))); have n2_ := Aside0.mk (show w11.heap[g11]? = some (.cells #[.int .i64 (a1 : Int), .int .i64 (b1 : Int)] 26 (0, 0)) from (by rw [hw]; exact (blk_put (cs' := #[.int .i64 (a1 : Int), .int .i64 (b1 : Int)]) (blk_put (cs' := #[.int .i64 (a1 : Int), .int .i64 0]) BK11.out 0 _ rfl) 1 _ rfl))); have n3_ := Aside0.mk (show w11.heap[g2]? = some (.cells #[.int .i64 (a : Int), .int .i64 (b : Int)] 26 (0, 0)) from (by rw [hw]; exact (blk_far (blk_far BK2.out (p := ⟨g11, 0, none⟩) NB2_11.out _) (p := ⟨g11, 1, none⟩) NB2_11.out _))); have n4_ := Aside0.mk (show w11.heap[g10]? = some (.cells #[.bool v, .int .i64 (p : Int)] 60 (0, 0)) from (by rw [hw]; exact (blk_far (blk_far BK10.out (p := ⟨g11, 0, none⟩) NB10_11.out _) (p := ⟨g11, 1, none⟩) NB10_11.out _))); have n5_ := Aside0.mk (show w11.heap[g12]? = some (.cells #[.int .i64 0, .int .i64 0] 26 (0, 0)) from (by rw [hw]; exact (blk_far (blk_far BK12.out (p := ⟨g11, 0, none⟩) (Ne.symm NB11_12.out) _) (p := ⟨g11, 1, none⟩) (Ne.symm NB11_12.out) _))); clear HQ HM BK11 BK2 BK10 BK12; have HQ := n0_; have HM := n1_; have BK11 := n2_; have BK2 := n3_; have BK10 := n4_; have BK12 := n5_; clear n0_ n1_ n2_ n3_ n4_ n5_; clear hw; have h2_0_w11 : w11.cell? ⟨g2, 0, none⟩ = some (.int .i64 (a : Int)) := (blk_cell BK2.out 0).trans rfl; have f2_0_w11 : w11.frozen? ⟨g2, 0, none⟩ = false := blk_frozen BK2.out 0; have h2_1_w11 : w11.cell? ⟨g2, 1, none⟩ = some (.int .i64 (b : Int)) := (blk_cell BK2.out 1).trans rfl; have f2_1_w11 : w11.frozen? ⟨g2, 1, none⟩ = false := blk_frozen BK2.out 1; have h10_0_w11 : w11.cell? ⟨g10, 0, none⟩ = some (.bool v) := (blk_cell BK10.out 0).trans rfl; have f10_0_w11 : w11.frozen? ⟨g10, 0, none⟩ = false := blk_frozen BK10.out 0; have h10_1_w11 : w11.cell? ⟨g10, 1, none⟩ = some (.int .i64 (p : Int)) := (blk_cell BK10.out 1).trans rfl; have f10_1_w11 : w11.frozen? ⟨g10, 1, none⟩ = false := blk_frozen BK10.out 1; have h12_0_w11 : w11.cell? ⟨g12, 0, none⟩ = some (.int .i64 0) := (blk_cell BK12.out 0).trans rfl; have f12_0_w11 : w11.frozen? ⟨g12, 0, none⟩ = false := blk_frozen BK12.out 0; have h12_1_w11 : w11.cell? ⟨g12, 1, none⟩ = some (.int .i64 0) := (blk_cell BK12.out 1).trans rfl; have f12_1_w11 : w11.frozen? ⟨g12, 1, none⟩ = false := blk_frozen BK12.out 1; have h11_0_w11 : w11.cell? ⟨g11, 0, none⟩ = some (.int .i64 (a1 : Int)) := (blk_cell BK11.out 0).trans rfl; have f11_0_w11 : w11.frozen? ⟨g11, 0, none⟩ = false := blk_frozen BK11.out 0; have h11_1_w11 : w11.cell? ⟨g11, 1, none⟩ = some (.int .i64 (b1 : Int)) := (blk_cell BK11.out 1).trans rfl; have f11_1_w11 : w11.frozen? ⟨g11, 1, none⟩ = false := blk_frozen BK11.out 1) | ((with_reducible refine gate_store (t := 26) (p := 12) rfl ?_); refine store_event (t := 26) (p := 12) (v := ?vo_w12) (w1 := ((w11.setCell ⟨g12, 0, none⟩ (.int .i64 (a2 : Int))).setCell ⟨g12, 1, none⟩ (.int .i64 (b2 : Int)))) ?hg ?ho ?hn ?hr ?_; (case ho => rfl); (case hg => rfl); (case hn => rfl); (case hr => first | (go_simp; done) | (go_simp; rfl)); intro w12 hw; have n0_ := Aside0.mk (show Kept w5 w12 (fun k => k = M) from (by rw [hw]; exact (Kept.setCell (Kept.setCell HQ.out (p := ⟨g12, 0, none⟩) (.inr GE12.out) _) (p := ⟨g12, 1, none⟩) (.inr GE12.out) _))); have n1_ := Aside0.mk (show EatEnv M w (fun _ => True) w12 from (by rw [hw]; exact (en_set (en_set HM.out BK12.out (by decide) (Nat.le_trans HSZ.out GE12.out) _ _) (blk_put (cs' := #[.int .i64 (a2 : Int), .int .i64 0]) BK12.out 0 _ rfl) (by decide) (Nat.le_trans HSZ.out GE12.out) _ _))); have n2_ := Aside0.mk (show w12.heap[g12]? = some (.cells #[.int .i64 (a2 : Int), .int .i64 (b2 : Int)] 26 (0, 0)) from (by rw [hw]; exact (blk_put (cs' := #[.int .i64 (a2 : Int), .int .i64 (b2 : Int)]) (blk_put (cs' := #[.int .i64 (a2 : Int), .int .i64 0]) BK12.out 0 _ rfl) 1 _ rfl))); have n3_ := Aside0.mk (show w12.heap[g2]? = some (.cells #[.int .i64 (a : Int), .int .i64 (b : Int)] 26 (0, 0)) from (by rw [hw]; exact (blk_far (blk_far BK2.out (p := ⟨g12, 0, none⟩) NB2_12.out _) (p := ⟨g12, 1, none⟩) NB2_12.out _))); have n4_ := Aside0.mk (show w12.heap[g10]? = some (.cells #[.bool v, .int .i64 (p : Int)] 60 (0, 0)) from (by rw [hw]; exact (blk_far (blk_far BK10.out (p := ⟨g12, 0, none⟩) NB10_12.out _) (p := ⟨g12, 1, none⟩) NB10_12.out _))); have n5_ := Aside0.mk (show w12.heap[g11]? = some (.cells #[.int .i64 (a1 : Int), .int .i64 (b1 : Int)] 26 (0, 0)) from (by rw [hw]; exact (blk_far (blk_far BK11.out (p := ⟨g12, 0, none⟩) NB11_12.out _) (p := ⟨g12, 1, none⟩) NB11_12.out _))); clear HQ HM BK12 BK2 BK10 BK11; have HQ := n0_; have HM := n1_; have BK12 := n2_; have BK2 := n3_; have BK10 := n4_; have BK11 := n5_; clear n0_ n1_ n2_ n3_ n4_ n5_; clear hw; have h2_0_w12 : w12.cell? ⟨g2, 0, none⟩ = some (.int .i64 (a : Int)) := (blk_cell BK2.out 0).trans rfl; have f2_0_w12 : w12.frozen? ⟨g2, 0, none⟩ = false := blk_frozen BK2.out 0; have h2_1_w12 : w12.cell? ⟨g2, 1, none⟩ = some (.int .i64 (b : Int)) := (blk_cell BK2.out 1).trans rfl; have f2_1_w12 : w12.frozen? ⟨g2, 1, none⟩ = false := blk_frozen BK2.out 1; have h10_0_w12 : w12.cell? ⟨g10, 0, none⟩ = some (.bool v) := (blk_cell BK10.out 0).trans rfl; have f10_0_w12 : w12.frozen? ⟨g10, 0, none⟩ = false := blk_frozen BK10.out 0; have h10_1_w12 : w12.cell? ⟨g10, 1, none⟩ = some (.int .i64 (p : Int)) := (blk_cell BK10.out 1).trans rfl; have f10_1_w12 : w12.frozen? ⟨g10, 1, none⟩ = false := blk_frozen BK10.out 1; have h11_0_w12 : w12.cell? ⟨g11, 0, none⟩ = some (.int .i64 (a1 : Int)) := (blk_cell BK11.out 0).trans rfl; have f11_0_w12 : w12.frozen? ⟨g11, 0, none⟩ = false := blk_frozen BK11.out 0; have h11_1_w12 : w12.cell? ⟨g11, 1, none⟩ = some (.int .i64 (b1 : Int)) := (blk_cell BK11.out 1).trans rfl; have f11_1_w12 : w12.frozen? ⟨g11, 1, none⟩ = false := blk_frozen BK11.out 1; have h12_0_w12 : w12.cell? ⟨g12, 0, none⟩ = some (.int .i64 (a2 : Int)) := (blk_cell BK12.out 0).trans rfl; have f12_0_w12 : w12.frozen? ⟨g12, 0, none⟩ = false := blk_frozen BK12.out 0; have h12_1_w12 : w12.cell? ⟨g12, 1, none⟩ = some (.int .i64 (b2 : Int)) := (blk_cell BK12.out 1).trans rfl; have f12_1_w12 : w12.frozen? ⟨g12, 1, none⟩ = false := blk_frozen BK12.out 1))
          try clear h2_0_wr f2_0_wr
          try clear h2_1_wr f2_1_wr
          try clear h2_0_w6 f2_0_w6
          try clear h2_1_w6 f2_1_w6
          try clear h2_0_w7 f2_0_w7
          try clear h2_1_w7 f2_1_w7
          try clear h2_0_w8b f2_0_w8b
          try clear h2_1_w8b f2_1_w8b
          try clear h2_0_w9b f2_0_w9b
          try clear h2_1_w9b f2_1_w9b
          try clear h2_0_w10 f2_0_w10
          try clear h2_1_w10 f2_1_w10
          try clear h2_0_w11 f2_0_w11
          try clear h2_1_w11 f2_1_w11
          try clear h2_0_w12 f2_0_w12
          try clear h2_1_w12 f2_1_w12
          try clear h10_0_wr f10_0_wr
          try clear h10_1_wr f10_1_wr
          try clear h10_0_w6 f10_0_w6
          try clear h10_1_w6 f10_1_w6
          try clear h10_0_w7 f10_0_w7
          try clear h10_1_w7 f10_1_w7
          try clear h10_0_w8b f10_0_w8b
          try clear h10_1_w8b f10_1_w8b
          try clear h10_0_w9b f10_0_w9b
          try clear h10_1_w9b f10_1_w9b
          try clear h10_0_w10 f10_0_w10
          try clear h10_1_w10 f10_1_w10
          try clear h10_0_w11 f10_0_w11
          try clear h10_1_w11 f10_1_w11
          try clear h10_0_w12 f10_0_w12
          try clear h10_1_w12 f10_1_w12
          try clear h11_0_wr f11_0_wr
          try clear h11_1_wr f11_1_wr
          try clear h11_0_w6 f11_0_w6
          try clear h11_1_w6 f11_1_w6
          try clear h11_0_w7 f11_0_w7
          try clear h11_1_w7 f11_1_w7
          try clear h11_0_w8b f11_0_w8b
          try clear h11_1_w8b f11_1_w8b
          try clear h11_0_w9b f11_0_w9b
          try clear h11_1_w9b f11_1_w9b
          try clear h11_0_w10 f11_0_w10
          try clear h11_1_w10 f11_1_w10
          try clear h11_0_w11 f11_0_w11
          try clear h11_1_w11 f11_1_w11
          try clear h11_0_w12 f11_0_w12
          try clear h11_1_w12 f11_1_w12
          try clear h12_0_wr f12_0_wr
          try clear h12_1_wr f12_1_wr
          try clear h12_0_w6 f12_0_w6
          try clear h12_1_w6 f12_1_w6
          try clear h12_0_w7 f12_0_w7
          try clear h12_1_w7 f12_1_w7
          try clear h12_0_w8b f12_0_w8b
          try clear h12_1_w8b f12_1_w8b
          try clear h12_0_w9b f12_0_w9b
          try clear h12_1_w9b f12_1_w9b
          try clear h12_0_w10 f12_0_w10
          try clear h12_1_w10 f12_1_w10
          try clear h12_0_w11 f12_0_w11
          try clear h12_1_w11 f12_1_w11
          try clear h12_0_w12 f12_0_w12
          try clear h12_1_w12 f12_1_w12
          have TOK1 : True := trivial
          go_region_held3 (fun w' => w'.cell? ⟨g11, 0, none⟩ = some (.int .i64 (a1 : Int)) ∧ w'.cell? ⟨g11, 1, none⟩ = some (.int .i64 (b1 : Int)) ∧ w'.cell? ⟨g12, 0, none⟩ = some (.int .i64 (a2 : Int)) ∧ w'.cell? ⟨g12, 1, none⟩ = some (.int .i64 (b2 : Int)) ∧ w'.cell? ⟨g2, 0, none⟩ = some (.int .i64 (a : Int)) ∧ w'.cell? ⟨g2, 1, none⟩ = some (.int .i64 (b : Int)) ∧ w'.cell? ⟨g10, 0, none⟩ = some (.bool v)) (exact ⟨(blk_cell BK11.out 0).trans rfl, (blk_cell BK11.out 1).trans rfl, (blk_cell BK12.out 0).trans rfl, (blk_cell BK12.out 1).trans rfl, (blk_cell BK2.out 0).trans rfl, (blk_cell BK2.out 1).trans rfl, (blk_cell BK10.out 0).trans rfl⟩) (first | (((have tk_ := TOK1; clear tk_ TOK1); go_at_call 39; refine (eat_any (M := M) (w0 := w) _ a1 b1 J1.out (Nat.le_refl _) (fun _ => True) _ (fun _ _ => trivial) ?he_).mono ?_; (case he_ => first | (with_reducible exact HM.out) | exact en_below HM.out (below_drew1 (Below.refl _ _))); rintro e w14 ⟨gF, cF, rfl, hgr, henv, hrow⟩; rw [HLF.out] at hrow ⊢; rw [HF1.out] at hrow; have hgw : w12.grownBy w14 (some M) := (by first | (with_reducible exact hgr) | exact grown_trans (gr_drew (World.grownBy.refl _ _)) hgr); have n0_ := Aside0.mk (grown_kept hgw HQ.out rfl); have n1_ := Aside0.mk (blk_grown (g := g2) (o := .cells #[.int .i64 (a : Int), .int .i64 (b : Int)] 26 (0, 0)) BK2.out hgw (fun e => HM.out.mem.ne BK2.out (Option.some.inj e))); have n2_ := Aside0.mk (blk_grown (g := g10) (o := .cells #[.bool v, .int .i64 (p : Int)] 60 (0, 0)) BK10.out hgw (fun e => HM.out.mem.ne BK10.out (Option.some.inj e))); have n3_ := Aside0.mk (blk_grown (g := g11) (o := .cells #[.int .i64 (a1 : Int), .int .i64 (b1 : Int)] 26 (0, 0)) BK11.out hgw (fun e => HM.out.mem.ne BK11.out (Option.some.inj e))); have n4_ := Aside0.mk (blk_grown (g := g12) (o := .cells #[.int .i64 (a2 : Int), .int .i64 (b2 : Int)] 26 (0, 0)) BK12.out hgw (fun e => HM.out.mem.ne BK12.out (Option.some.inj e))); have n5_ := Aside0.mk (henv); clear HQ BK2 BK10 BK11 BK12 HM; have HQ := n0_; have BK2 := n1_; have BK10 := n2_; have BK11 := n3_; have BK12 := n4_; have HM := n5_; clear n0_ n1_ n2_ n3_ n4_ n5_; have HRF := Aside0.mk hrow; clear hgr henv hrow hgw)) | ((go_at_call 39; refine (eat_any (M := M) (w0 := w) _ a2 b2 J2.out (Nat.le_refl _) (fun _ => True) _ (fun _ _ => trivial) ?he_).mono ?_; (case he_ => first | (with_reducible exact HM.out) | exact en_below HM.out (below_drew1 (Below.refl _ _))); rintro e w16 ⟨gS, cS, rfl, hgr, henv, hrow⟩; rw [HLS.out] at hrow ⊢; rw [HF2.out] at hrow; have hgw : w14.grownBy w16 (some M) := (by first | (with_reducible exact hgr) | exact grown_trans (gr_drew (World.grownBy.refl _ _)) hgr); have n0_ := Aside0.mk (grown_kept hgw HQ.out rfl); have n1_ := Aside0.mk (blk_grown (g := g2) (o := .cells #[.int .i64 (a : Int), .int .i64 (b : Int)] 26 (0, 0)) BK2.out hgw (fun e => HM.out.mem.ne BK2.out (Option.some.inj e))); have n2_ := Aside0.mk (blk_grown (g := g10) (o := .cells #[.bool v, .int .i64 (p : Int)] 60 (0, 0)) BK10.out hgw (fun e => HM.out.mem.ne BK10.out (Option.some.inj e))); have n3_ := Aside0.mk (blk_grown (g := g11) (o := .cells #[.int .i64 (a1 : Int), .int .i64 (b1 : Int)] 26 (0, 0)) BK11.out hgw (fun e => HM.out.mem.ne BK11.out (Option.some.inj e))); have n4_ := Aside0.mk (blk_grown (g := g12) (o := .cells #[.int .i64 (a2 : Int), .int .i64 (b2 : Int)] 26 (0, 0)) BK12.out hgw (fun e => HM.out.mem.ne BK12.out (Option.some.inj e))); have n5_ := Aside0.mk (Kd.R_mono (Kd.R_grown (Kd.R_bound HRF.out) hgw (fun k hk e => by obtain ⟨_, _, _, q, _, cells, hc⟩ := hk; exact HM.out.mem.ne hc (Option.some.inj e))) (fun k hk => hk.1)); have n6_ := Aside0.mk (henv); clear HQ BK2 BK10 BK11 BK12 HRF HM; have HQ := n0_; have BK2 := n1_; have BK10 := n2_; have BK11 := n3_; have BK12 := n4_; have HRF := n5_; have HM := n6_; clear n0_ n1_ n2_ n3_ n4_ n5_ n6_; have HRS := Aside0.mk hrow; clear hgr henv hrow hgw)) | ((go_at_call 44; refine (impl_Bar_line.calls _ _ _ _ _ HLN.out).mono ?_; rintro e w18 ⟨rfl, hb⟩; have hbw : Below w16.heap.size w16 w18 := below_step (by repeat (first | (with_reducible first | exact (Below.refl w16.heap.size w16) | apply below_alloc | apply pw_below_drewN | apply below_drew1) | exact (Below.refl w16.heap.size w16)) : Below w16.heap.size w16 _) hb; have n0_ := Aside0.mk (Kept.below HQ.out hbw); have n1_ := Aside0.mk (en_below HM.out hbw); have n2_ := Aside0.mk (Kd.R_below HRF.out hbw); have n3_ := Aside0.mk (Kd.R_below HRS.out hbw); have n4_ := Aside0.mk (blk_below BK2.out hbw); have n5_ := Aside0.mk (blk_below BK10.out hbw); have n6_ := Aside0.mk (blk_below BK11.out hbw); have n7_ := Aside0.mk (blk_below BK12.out hbw); clear HQ HM HRF HRS BK2 BK10 BK11 BK12; have HQ := n0_; have HM := n1_; have HRF := n2_; have HRS := n3_; have BK2 := n4_; have BK10 := n5_; have BK11 := n6_; have BK12 := n7_; clear n0_ n1_ n2_ n3_ n4_ n5_ n6_ n7_; clear hb hbw)))
          go_wp2
          have HSPo := HSP.out
          have HTo := HT.out
          go_loopg [67] (lf + 1) (fun kq v67 w' => ∃ n3 : Nat, v67 = .int .i64 (n3 : Int) ∧ Aside0 (n3 ≤ lf) ∧ Aside0 (lf - n3 ≤ kq) ∧ Aside0 (Below w18.heap.size w18 w') ∧ Aside0 (∀ j, j < n3 → ¬ hitI sq le f1 f2 t j))
          case atStart => exact ⟨0, rfl, ⟨Nat.zero_le _⟩, ⟨by omega⟩, ⟨Below.refl _ _⟩, ⟨fun j h => absurd h (Nat.not_lt_zero _)⟩⟩
          case round =>
            obtain ⟨n3, rfl, hn3, hq3, HB3, HNO3⟩ := hrel
            by_cases hl3 : n3 < lf
            · have c3 : decide ((n3 : Int) < (lf : Int)) = true := decide_eq_true (by omega)
              have c30 : decide (n3 < lf) = true := decide_eq_true hl3
              have p3 : (0 : Int) ≤ (n3 : Int) := by omega
              have q3 : (n3 : Int) < (lf : Int) := by omega
              obtain ⟨hxF, _⟩ := cell_rd (Kd.R_below HRF.out HB3.out) n3 hl3
              have hmb := B1.out.1.rd (by decide) n3
              obtain ⟨m, hm⟩ : ∃ z, rd f1 (n3 : Int) = z := ⟨_, rfl⟩
              rw [hm] at hxF hmb
              have HMR := Aside0.mk hm
              have HQ3Q := Aside0.mk (show lf - (n3 + 1) ≤ gk - 1 ∧ 0 < gk by have := hq3.out; omega)
              have HL3 := Aside0.mk hl3
              have e3 : (n3 : Int) + 1 ≤ 1000 := by omega
              have WK := within_some ((t : Int) - (n3 : Int)) 0 ((ls : Int) - 1)
              have w1_ := Aside0.mk (show wrap64 ((t : Int) - (n3 : Int)) = (t : Int) - (n3 : Int) from w64 (by omega) (by omega))
              have w2_ := Aside0.mk (show wrap64 ((ls : Int) - 1) = (ls : Int) - 1 from w64 (by omega) (by omega))
              by_cases hin : n3 ≤ t ∧ t - n3 < ls
              · rw [decide_eq_true (show 0 ≤ (t : Int) - (n3 : Int) ∧ (t : Int) - (n3 : Int) ≤ (ls : Int) - 1 by omega)] at WK
                obtain ⟨kn, hkn⟩ : ∃ z : Nat, t - n3 = z := ⟨_, rfl⟩
                have hkz : (t : Int) - (n3 : Int) = (kn : Int) := by omega
                have w1k := Aside0.mk (w1_.out.trans hkz)
                rw [hkz] at WK
                have HWK := Aside0.mk WK
                have HKN := Aside0.mk (show kn < ls by omega)
                have hxb := B1.out.2.rd (by decide) kn
                obtain ⟨x, hx⟩ : ∃ z, rd f2 (kn : Int) = z := ⟨_, rfl⟩
                rw [hx] at hxb
                have HX := Aside0.mk hx
                have k1 : (0 : Int) ≤ (kn : Int) := by omega
                have k2 : (kn : Int) < (ls : Int) := by omega
                have k3 : kn < ls := by omega
                have hsb := HSQB.out
                obtain ⟨cm, hcm⟩ : ∃ z, sq + m = z := ⟨_, rfl⟩
                obtain ⟨ow, how⟩ : ∃ z, cm + x = z := ⟨_, rfl⟩
                have w3_ := Aside0.mk (show wrap64 (sq + m) = cm by rw [w64 (by omega) (by omega)]; exact hcm)
                have w4_ := Aside0.mk (show wrap64 (cm + x) = ow by rw [w64 (by omega) (by omega)]; exact how)
                have hiff : hitI sq le f1 f2 t n3 ↔ ow = le := by
                  unfold hitI
                  rw [LL.out.2, hkn, HMR.out, HX.out, hcm, how]
                  exact ⟨fun h => h.2.2, fun h => ⟨hin.1, by omega, h⟩⟩
                have HIF := Aside0.mk hiff
                clear hiff hx hcm how hsb hxb hkn hkz WK hin hmb hm hn3 hq3 hl3
                have hml := HML.out; have hw1 := w1k.out; have hw2 := w2_.out; have hw3 := w3_.out; have hw4 := w4_.out
                have hmlW := (i64_w _).trans hml; have hw1W := (i64_w _).trans hw1; have hw2W := (i64_w _).trans hw2; have hw3W := (i64_w _).trans hw3; have hw4W := (i64_w _).trans hw4
                by_cases he : ow = le
                · have d1 : (ow == le) = true := beq_iff_eq.2 he
                  have HHT := Aside0.mk (HIF.out.2 he)
                  clear he HIF
                  go_wp2_with (first | ((go_at_call 37; refine (impl_within.calls _ _ _ _ _ HWK.out).mono ?_; rintro e w30 ⟨rfl, hd⟩; have HB3n := Aside0.mk (below_step HB3.out hd.below); clear HB3 hd; have HB3 := HB3n; clear HB3n; have hxS := (cell_rd (Kd.R_below HRS.out HB3.out) kn HKN.out).1; rw [HX.out] at hxS; have hc10 : w30.cell? ⟨g10, 0, none⟩ = some (.bool v) := (blk_cell (blk_below BK10.out HB3.out) 0).trans rfl; have hc11 : w30.cell? ⟨g10, 1, none⟩ = some (.int .i64 (p : Int)) := (blk_cell (blk_below BK10.out HB3.out) 1).trans rfl)))
                  clear hml hw1 hw2 hw3 hw4 hmlW hw1W hw2W hw3W hw4W
                  have hres : hitB (a, b) t le cs[n] = true := by
                    rw [HVP.out, HHIT.out]
                    exact List.any_eq_true.2 ⟨n3, List.mem_range.2 HL3.out, decide_eq_true HHT.out⟩
                  have hfind := find_hit HLT.out HNO.out hres
                  have HFR2 := HFR.out
                  rw [hfind, HVP.out] at HFR2
                  simp only [Prod.mk.injEq] at HFR2
                  obtain ⟨rfl, rfl, rfl⟩ := HFR2
                  have hbl := Aside0.mk (en_below HM.out HB3.out).below
                  clear hres hfind
                  go_region
                  all_goals go_wp2
                  all_goals go_ret3
                  all_goals exact ⟨rfl, by repeat (first | (with_reducible first | exact hbl.out | apply pw_below_drewN | apply below_drew1) | exact hbl.out)⟩
                · have d1 : (ow == le) = false := beq_eq_false_iff_ne.2 he
                  have HNH := Aside0.mk (fun h => he (HIF.out.1 h))
                  clear he HIF
                  go_wp2_with (first | ((go_at_call 37; refine (impl_within.calls _ _ _ _ _ HWK.out).mono ?_; rintro e w30 ⟨rfl, hd⟩; have HB3n := Aside0.mk (below_step HB3.out hd.below); clear HB3 hd; have HB3 := HB3n; clear HB3n; have hxS := (cell_rd (Kd.R_below HRS.out HB3.out) kn HKN.out).1; rw [HX.out] at hxS; have hc10 : w30.cell? ⟨g10, 0, none⟩ = some (.bool v) := (blk_cell (blk_below BK10.out HB3.out) 0).trans rfl; have hc11 : w30.cell? ⟨g10, 1, none⟩ = some (.int .i64 (p : Int)) := (blk_cell (blk_below BK10.out HB3.out) 1).trans rfl)))
                  clear hml hw1 hw2 hw3 hw4 hmlW hw1W hw2W hw3W hw4W hxS hc10 hc11
                  go_roundg (gk - 1)
                  case measure => have := HQ3Q.out; omega
                  case rel => exact ⟨n3 + 1, by go_num, ⟨HL3.out⟩, ⟨HQ3Q.out.1⟩, HB3, ⟨fun j hj => if e : j = n3 then (by rw [e]; exact HNH.out) else HNO3.out j (by omega)⟩⟩
              · rw [decide_eq_false (show ¬ (0 ≤ (t : Int) - (n3 : Int) ∧ (t : Int) - (n3 : Int) ≤ (ls : Int) - 1) by omega)] at WK
                have HWK := Aside0.mk WK
                have HNH := Aside0.mk (show ¬ hitI sq le f1 f2 t n3 from fun h => by unfold hitI at h; rw [LL.out.2] at h; exact hin ⟨h.1, h.2.1⟩)
                clear WK hin hmb hm hn3 hq3 hl3
                have hw1 := w1_.out; have hw2 := w2_.out
                have hw1W := (i64_w _).trans hw1; have hw2W := (i64_w _).trans hw2
                go_wp2_with (first | ((go_at_call 37; refine (impl_within.calls _ _ _ _ _ HWK.out).mono ?_; rintro e w30 ⟨rfl, hd⟩; have HB3n := Aside0.mk (below_step HB3.out hd.below); clear HB3 hd; have HB3 := HB3n; clear HB3n)))
                clear hw1 hw2 hw1W hw2W
                go_roundg (gk - 1)
                case measure => have := HQ3Q.out; omega
                case rel => exact ⟨n3 + 1, by go_num, ⟨HL3.out⟩, ⟨HQ3Q.out.1⟩, HB3, ⟨fun j hj => if e : j = n3 then (by rw [e]; exact HNH.out) else HNO3.out j (by omega)⟩⟩
            · have c3 : decide ((n3 : Int) < (lf : Int)) = false := decide_eq_false (by omega)
              have c30 : decide (n3 < lf) = false := decide_eq_false hl3
              obtain rfl : n3 = lf := by have := hn3.out; omega
              have hnew : hitB (a, b) t le cs[n] = false := by
                rw [HVP.out, HHIT.out]
                exact List.any_eq_false.2 fun j hj => by have := HNO3.out j (List.mem_range.1 hj); simpa using this
              have HNEW := Aside0.mk hnew
              have n0_ := Aside0.mk (Kept.below HQ.out HB3.out)
              have n1_ := Aside0.mk (en_below HM.out HB3.out)
              clear HQ HM hnew
              have HQ := n0_; have HM := n1_
              clear n0_ n1_
              have e1 : (n : Int) + 1 ≤ 1000 := by have := HLT.out; have := HCL.out; omega
              clear hl3 hn3 hq3
              go_wp2
              go_roundg (cs.length - (n + 1))
              case measure => have := HQQ.out; omega
              case rel => exact ⟨n + 1, by go_num, ⟨HLT.out⟩, ⟨Nat.le_refl _⟩, HQ, HM, ⟨fun j hj h => if e : j = n then (by subst e; exact HNEW.out) else HNO.out j hj (by omega)⟩⟩
        · have c0 : decide ((n : Int) < (cs.length : Int)) = false := decide_eq_false (by omega)
          have c00 : decide (n < cs.length) = false := decide_eq_false hlt
          obtain rfl : n = cs.length := by have := hn.out; omega
          have HFR2 := HFR.out
          rw [find_none (fun j hj => HNO.out j hj hj)] at HFR2
          simp only [Prod.mk.injEq] at HFR2
          obtain ⟨rfl, rfl, rfl⟩ := HFR2
          go_wp2
          go_ret3
          exact ⟨rfl, HM.out.below⟩
    · rw [if_neg hin] at h
      simp only [Option.some.injEq, Prod.mk.injEq] at h
      obtain ⟨rfl, rfl, rfl⟩ := h
      rw [decide_eq_false hin] at WI
      have HWI := Aside0.mk WI
      clear WI hin har hab ok hgb hg ISB hkc
      have hm1 := M1.out.1
      have hm1W := M1.out.2
      go_enter Try.func18, Try.ntmps18
      go_wp2_with (first | ((with_reducible refine gate_dst (N := 2) rfl ?_); refine box_event ?hg (N := 2) ?hd (cs := #[.int .i64 (a : Int), .int .i64 (b : Int)]) (t := 26) ?hr ?_; (case hd => rfl); (case hg => rfl); (case hr => first | (go_simp; done) | (go_simp; rfl)); intro g2 hg w4 hbox hb; have BK2 := Aside0.mk hbox; have n0_ := Aside0.mk (below_step HB.out hb); clear HB hb hbox hg; have HB := n0_; clear n0_; have h2_0_w4 : w4.cell? ⟨g2, 0, none⟩ = some (.int .i64 (a : Int)) := (blk_cell BK2.out 0).trans rfl; have h2_1_w4 : w4.cell? ⟨g2, 1, none⟩ = some (.int .i64 (b : Int)) := (blk_cell BK2.out 1).trans rfl) | (go_at_call 36; refine (impl_isBar.calls _ _ _ _ HI.out).mono ?_; rintro e w6 ⟨rfl, hb⟩; have n0_ := Aside0.mk (below_step HB.out hb); have n1_ := Aside0.mk (blk_below BK2.out hb); clear HB BK2 hb; have HB := n0_; have BK2 := n1_; clear n0_ n1_; have h2_0_w6 : w6.cell? ⟨g2, 0, none⟩ = some (.int .i64 (a : Int)) := (blk_cell BK2.out 0).trans rfl; have h2_1_w6 : w6.cell? ⟨g2, 1, none⟩ = some (.int .i64 (b : Int)) := (blk_cell BK2.out 1).trans rfl) | (go_at_call 38; refine (impl_Bar_squares.calls _ _ _ _ HSQ.out).mono ?_; rintro e w7 ⟨rfl, hb⟩; have n0_ := Aside0.mk (below_step HB.out hb); have n1_ := Aside0.mk (blk_below BK2.out hb); clear HB BK2 hb; have HB := n0_; have BK2 := n1_; clear n0_ n1_; have h2_0_w7 : w7.cell? ⟨g2, 0, none⟩ = some (.int .i64 (a : Int)) := (blk_cell BK2.out 0).trans rfl; have h2_1_w7 : w7.cell? ⟨g2, 1, none⟩ = some (.int .i64 (b : Int)) := (blk_cell BK2.out 1).trans rfl) | (go_at_call 37; refine (impl_within.calls _ _ _ _ _ HWI.out).mono ?_; rintro e w8 ⟨rfl, hd⟩; have hb := hd.below; clear hd; have n0_ := Aside0.mk (below_step HB.out hb); have n1_ := Aside0.mk (blk_below BK2.out hb); clear HB BK2 hb; have HB := n0_; have BK2 := n1_; clear n0_ n1_; have h2_0_w8 : w8.cell? ⟨g2, 0, none⟩ = some (.int .i64 (a : Int)) := (blk_cell BK2.out 0).trans rfl; have h2_1_w8 : w8.cell? ⟨g2, 1, none⟩ = some (.int .i64 (b : Int)) := (blk_cell BK2.out 1).trans rfl; have h2_0a_w8 : ∀ o : Obj, (w8.alloc o).cell? ⟨g2, 0, none⟩ = some (.int .i64 (a : Int)) := fun o => (blk_cell (old_allocF BK2.out o) 0).trans rfl; have h2_1a_w8 : ∀ o : Obj, (w8.alloc o).cell? ⟨g2, 1, none⟩ = some (.int .i64 (b : Int)) := fun o => (blk_cell (old_allocF BK2.out o) 1).trans rfl))
      go_ret3
      exact ⟨rfl, HB.out⟩
end Go.Proofs.Ythlnpbdjblocfaa.P
