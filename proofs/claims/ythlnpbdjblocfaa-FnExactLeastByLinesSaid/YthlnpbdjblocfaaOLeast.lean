/- impl.LeastByLines: what the call comes to. Conditions: the slices read as the lists. -/
import Derived.Test.YthlnpbdjblocfaaOLines
namespace Go.Proofs.Ythlnpbdjblocfaa.P
open Go.RowKit Go.Proofs.Ythlnpbdjblocfaa.Srt Go.Proofs.YthlnpbdjblocfaaW.PrintWords Go.Proofs.YthlnpbdjblocfaaW.PrintLast Go.Proofs.YthlnpbdjblocfaaW.PrintMore Go.Proofs.Ythlnpbdjblocfaa.Pure
set_option linter.unusedVariables false
set_option linter.unusedSimpArgs false
/-- One line broken: the cost so far, and the pieces that each way has. -/
def stepL (l0 l1 : List Int) (s : Int × Int × Int) (p : Ln) : Int × Int × Int := if p.1 = 0 then (wrap64 (s.1 + wrap64 (rd l0 (p.2 : Int) * s.2.2)), wrap64 (s.2.1 + 1), s.2.2) else (wrap64 (s.1 + wrap64 (rd l1 (p.2 : Int) * s.2.1)), s.2.1, wrap64 (s.2.2 + 1))
def leastL (l0 l1 : List Int) (ls : List Ln) : Int := (ls.foldl (stepL l0 l1) (0, 1, 1)).1
def impl_LeastByLines.f (l0 : List Int) (l1 : List Int) : Option (Int × Bool) := (impl_areLines.f l0).bind fun t => if t = true then (impl_areLines.f l1).bind fun u => (if u = true then some (leastL l0 l1 (ordL l0 l1), true) else some (0, false)) else some (0, false)
theorem below_set3 {B : Nat} {w W : World} {g j : Nat} {v : Value} (h : Below B w W) (hg : B ≤ g) : Below B w (W.setCell ⟨g, j, none⟩ v) := Below.setCell h hg v
theorem lines_f (l0 l1 : List Int) (r : Int) (b : Bool) (h : impl_LeastByLines.f l0 l1 = some (r, b)) : (b = true ∧ r = leastL l0 l1 (ordL l0 l1) ∧ impl_OrderByLines.f l0 l1 = some ((ordL l0 l1).map encL, true) ∧ impl_areLines.f l0 = some true ∧ impl_areLines.f l1 = some true) ∨ (b = false ∧ r = 0 ∧ impl_OrderByLines.f l0 l1 = some ([], false)) := by
  unfold impl_LeastByLines.f at h
  obtain ⟨t, ht, h⟩ := Option.bind_eq_some_iff.mp h
  unfold impl_OrderByLines.f
  rw [ht]
  cases t with
  | false =>
    replace h : some ((0 : Int), false) = some (r, b) := h
    simp only [Option.some.injEq, Prod.mk.injEq] at h
    exact .inr ⟨h.2.symm, h.1.symm, rfl⟩
  | true =>
    replace h : ((impl_areLines.f l1).bind fun u => (if u = true then some (leastL l0 l1 (ordL l0 l1), true) else some ((0 : Int), false))) = some (r, b) := h
    obtain ⟨u, hu, h⟩ := Option.bind_eq_some_iff.mp h
    cases u with
    | false =>
      replace h : some ((0 : Int), false) = some (r, b) := h
      simp only [Option.some.injEq, Prod.mk.injEq] at h
      refine .inr ⟨h.2.symm, h.1.symm, ?_⟩
      show (impl_areLines.f l1).bind _ = _
      rw [hu]
      rfl
    | true =>
      replace h : some (leastL l0 l1 (ordL l0 l1), true) = some (r, b) := h
      simp only [Option.some.injEq, Prod.mk.injEq] at h
      refine .inl ⟨h.2.symm, h.1.symm, ?_, rfl, hu⟩
      show (impl_areLines.f l1).bind _ = _
      rw [hu]
      rfl
theorem at_most_lines {l0 l1 : List Int} (h0 : ∀ x ∈ l0, 0 ≤ x ∧ x ≤ 100) (h1 : ∀ x ∈ l1, 0 ≤ x ∧ x ≤ 100) (hn0 : l0.length ≤ 11) (hn1 : l1.length ≤ 11) : (ordL l0 l1).length ≤ 50 := by
  have hl : l0.length + l1.length ≤ 39 := by omega
  rw [← stab_ord hl (cost_bound h0 h1)]
  have := (stab_ok (ltL l0 l1) TL_trans (linesL l0 l1) (by rw [lines_len]; exact hl) lines_agree).1.length_eq
  rw [this, lines_len]
  omega
set_option maxHeartbeats 8000000 in
set_option maxRecDepth 100000 in
theorem impl_LeastByLines.calls (A0 : Option Addr) (c0 : Nat) (l0 : List Int) (A1 : Option Addr) (c1 : Nat) (l1 : List Int) (r1 : Int) (r2 : Bool) (w : World) (hr0 : Kd.C (Kd.int .i64) w A0 l0.length l0) (hc0 : l0.length ≤ c0) (hr1 : Kd.C (Kd.int .i64) w A1 l1.length l1) (hc1 : l1.length ≤ c1) (h : impl_LeastByLines.f l0 l1 = some (r1, r2)) :
    Calls Try.prog 23 #[.slice A0 l0.length c0, .slice A1 l1.length c1] w fun e w' => e = .returned (.tuple #[.int .i64 r1, .bool r2]) ∧ Below w.heap.size w w' := by
  have HR0 := Aside0.mk hr0
  have HC0 := Aside0.mk hc0
  have HR1 := Aside0.mk hr1
  have HC1 := Aside0.mk hc1
  clear hr0 hc0 hr1 hc1
  rcases lines_f l0 l1 r1 r2 h with ⟨rfl, rfl, hf, ha0, ha1⟩ | ⟨rfl, rfl, hf⟩
  · have HF := Aside0.mk hf
    obtain ⟨hn0, hb0⟩ := are_lines ha0
    obtain ⟨hn1, hb1⟩ := are_lines ha1
    have HLL := Aside0.mk (And.intro hn0 hn1)
    have hmem := Aside0.mk (ord_mem (cost_bound hb0 hb1))
    obtain ⟨LF, hLF⟩ : ∃ z, leastL l0 l1 (ordL l0 l1) = z := ⟨_, rfl⟩
    rw [hLF]
    have HLF := Aside0.mk hLF
    have hol := at_most_lines hb0 hb1 hn0 hn1
    clear h hf ha0 ha1 hn0 hn1 hb0 hb1 hLF
    obtain ⟨O, hO⟩ : ∃ z, ordL l0 l1 = z := ⟨_, rfl⟩
    rw [hO] at HF hmem HLF hol
    have HOL := Aside0.mk hol
    clear hO hol
    go_enter Try.func23, Try.ntmps23
    go_wp2_with (first | (go_at_call 26; refine (impl_OrderByLines.calls _ _ l0 _ _ l1 _ _ _ HR0.out HC0.out HR1.out HC1.out HF.out).mono ?_; rintro e w3 ⟨v, rfl, hS, hb⟩; obtain ⟨Ao, co, ev⟩ := Kd.R_slice (Kd.S_R hS); subst ev; have HS := Aside0.mk hS; have HB := Aside0.mk hb; clear hS hb))
    rw [List.length_map] at HS
    try simp only [List.length_map]
    obtain ⟨els, hep, hR, hel, _⟩ := to_els HS.out
    have hle : els.length = O.length := by rw [← hep, List.length_map]
    have HE := Aside0.mk (And.intro hep (And.intro hle hel))
    have HRW := Aside0.mk hR
    obtain ⟨w4, hw4⟩ : ∃ z, w3.alloc (.cells #[.int .i64 1, .int .i64 1] 67) = z := ⟨_, rfl⟩
    rw [hw4]
    obtain ⟨gp, hgp⟩ : ∃ z, w3.heap.size = z := ⟨_, rfl⟩
    have HGP : Aside0 (w4.heap[gp]? = some (.cells #[.int .i64 1, .int .i64 1] 67 (0, 0))) := ⟨by rw [← hw4, ← hgp]; exact blk_new w3 _⟩
    have HB3 : Aside0 (Below w3.heap.size w3 w4) := ⟨by rw [← hw4]; exact below_alloc (Below.refl _ _) _⟩
    have HGE := Aside0.mk (show w3.heap.size ≤ gp by omega)
    rw [hgp]
    clear hep hle hel hR hw4 hgp HS
    go_loopg [8, 24] (O.length + 1) (fun kq v8 v24 w' => ∃ (j : Nat) (all p0 p1 : Int), v8 = .int .i64 all ∧ v24 = .int .i64 (j : Int) ∧ Aside0 (j ≤ O.length) ∧ Aside0 (O.length - j < kq) ∧ Aside0 (((O.drop j).foldl (stepL l0 l1) (all, p0, p1)).1 = LF) ∧ Aside0 (w'.heap[gp]? = some (.cells #[.int .i64 p0, .int .i64 p1] 67 (0, 0))) ∧ Aside0 (Below w3.heap.size w3 w'))
    case atStart => exact ⟨0, 0, 1, 1, rfl, rfl, ⟨Nat.zero_le _⟩, ⟨by omega⟩, HLF, HGP, HB3⟩
    case round =>
      clear HGP HB3
      obtain ⟨j, all, p0, p1, rfl, rfl, hj, hq, HNX, HGP, HB3⟩ := hrel
      by_cases hlt : j < O.length
      · have c0_ : decide ((j : Int) < (O.length : Int)) = true := decide_eq_true (by omega)
        have c00 : decide (j < O.length) = true := decide_eq_true hlt
        have hje : j < els.length := by rw [HE.out.2.1]; exact hlt
        obtain ⟨ad, ea, hx_⟩ := ReadsOf.at_ (Kd.reads_of_C (enc := encE) (d := default) (h1 := oneE) (Kd.C_below (Kd.R_reads' HRW.out).2.2 HB3.out)) (j : Int) (by omega) (by omega)
        cases ea
        have hrd : rdOf default els (j : Int) = els[j] := by
          unfold rdOf
          rw [Int.toNat_natCast, List.getD_eq_getElem?_getD, List.getElem?_eq_getElem hje]
          rfl
        rw [Int.toNat_natCast, hrd] at hx_
        have hxm := HE.out.2.2 els[j] (List.getElem_mem hje)
        have hpx : O[j] = (els[j]).p := by
          have h1 : (els.map El.p)[j]? = O[j]? := by rw [HE.out.1]
          rw [List.getElem?_map, List.getElem?_eq_getElem hje, List.getElem?_eq_getElem hlt] at h1
          exact (Option.some.inj h1).symm
        have hpm : (els[j]).p ∈ linesL l0 l1 := (hmem.out _).1 (by rw [← hpx]; exact List.getElem_mem hlt)
        have hnx := HNX.out
        rw [List.drop_eq_getElem_cons hlt, List.foldl_cons, hpx] at hnx
        obtain ⟨⟨xg, xc, way, q⟩, hxe⟩ : ∃ z, els[j] = z := ⟨_, rfl⟩
        rw [hxe] at hx_ hxm hpm hnx
        replace hx_ : wr.cell? (ad.add j) = some (.slice (some ⟨xg, 0, none⟩) 2 xc) := hx_
        have hqb := lines_bound hpm
        have HLN := Aside0.mk hxm.1
        have HQ := Aside0.mk (show O.length - (j + 1) < gk - 1 ∧ 0 < gk ∧ j + 1 ≤ O.length by have := hq.out; omega)
        have HW9 := Aside0.mk (show wrap64 ((j : Int) + 1) = (j : Int) + 1 from by have := HOL.out; exact w64 (by omega) (by omega))
        have k0 : (0 : Int) ≤ (j : Int) := by omega
        have k1 : (j : Int) < (O.length : Int) := by omega
        have hll := HLL.out
        clear HNX hje hrd hxm hpx hpm hj hq hxe
        rcases hqb with ⟨hway, hqb⟩ | ⟨hway, hqb⟩
        · replace hway : way = 0 := hway
          subst hway
          replace hqb : q < l0.length := hqb
          have HNX : Aside0 (((O.drop (j + 1)).foldl (stepL l0 l1) (wrap64 (all + wrap64 (rd l0 (q : Int) * p1)), wrap64 (p0 + 1), p1)).1 = LF) := ⟨hnx⟩
          have HL0 : Aside0 (∀ W', Below w3.heap.size w3 W' → W'.cell? ⟨xg, 0, none⟩ = some (.int .i64 0)) := ⟨fun W' hb => (line_cells (line_move HLN.out (hb.block _ (line_lt HLN.out)))).1⟩
          have HL1 : Aside0 (∀ W', Below w3.heap.size w3 W' → W'.cell? ⟨xg, 1, none⟩ = some (.int .i64 (q : Int))) := ⟨fun W' hb => (line_cells (line_move HLN.out (hb.block _ (line_lt HLN.out)))).2⟩
          clear hnx hlt
          obtain ⟨ad0, ea0, hfirst⟩ := Kd.at_int HR0.out (q : Int) (by omega) (by omega)
          cases ea0
          clear hfirst
          have HOWN : Aside0 (∀ W', Below w3.heap.size w3 W' → W'.cell? (ad0.add q) = some (.int .i64 (rd l0 (q : Int)))) := ⟨fun W' hb => by
            obtain ⟨ad1, ea1, h1⟩ := Kd.at_int (Kd.C_below HR0.out (below_step HB.out hb)) (q : Int) (by omega) (by omega)
            cases ea1
            rw [Int.toNat_natCast] at h1
            exact h1⟩
          obtain ⟨cq, hcq⟩ : ∃ z, rd l0 (q : Int) = z := ⟨_, rfl⟩
          rw [hcq] at HOWN HNX
          obtain ⟨m1, hm1⟩ : ∃ z, wrap64 (cq * p1) = z := ⟨_, rfl⟩
          obtain ⟨a1, ha1⟩ : ∃ z, wrap64 (all + m1) = z := ⟨_, rfl⟩
          obtain ⟨pn, hpn⟩ : ∃ z, wrap64 (p0 + 1) = z := ⟨_, rfl⟩
          rw [hm1, ha1, hpn] at HNX
          have M1 := Aside0.mk hm1
          have M2 := Aside0.mk ha1
          have M3 := Aside0.mk hpn
          have i0 : (0 : Int) ≤ (q : Int) := by omega
          have i1 : (q : Int) < (l0.length : Int) := by omega
          have i2 : q < l0.length := by omega
          have hw1W := (i64_w _).trans hm1
          have hw2W := (i64_w _).trans ha1
          have hw3W := (i64_w _).trans hpn
          clear hcq hqb
          go_wp2_with (first | ((with_reducible refine gate_dst (N := 30) rfl ?_); refine lit_event ?hg (N := 30) ?hd (cs := #[.slice (some ad0) l0.length c0, .slice A1 l1.length c1]) (t := 35) (n := 2) ?hr ?_; (case hd => rfl); (case hg => rfl); (case hr => first | (go_simp; done) | (go_simp; rfl)); intro gl hg_ w5 hbox hb; have HBW := Aside0.mk (show Below w3.heap.size w3 w5 from below_step HB3.out hb); have n0_ := Aside0.mk (blk_below HGP.out hb); clear HGP; have HGP := n0_; clear n0_; have hli_ : w5.cell? ⟨gl, 0, none⟩ = some (.slice (some ad0) l0.length c0) := (blk_cell hbox 0).trans rfl; clear hx_ hbox hg_ hb; have hl0_5 : w5.cell? ⟨xg, 0, none⟩ = some (.int .i64 0) := HL0.out w5 HBW.out; have hl1_5 : w5.cell? ⟨xg, 1, none⟩ = some (.int .i64 (q : Int)) := HL1.out w5 HBW.out; have hp0_5 : w5.cell? ⟨gp, 0, none⟩ = some (.int .i64 p0) := (blk_cell HGP.out 0).trans rfl; have hp1_5 : w5.cell? ⟨gp, 1, none⟩ = some (.int .i64 p1) := (blk_cell HGP.out 1).trans rfl; have hz0_5 : w5.frozen? ⟨gp, 0, none⟩ = false := blk_frozen HGP.out 0; have hz1_5 : w5.frozen? ⟨gp, 1, none⟩ = false := blk_frozen HGP.out 1; have ho_5 := HOWN.out w5 HBW.out))
          go_region
          all_goals clear hm1 ha1 hw1W hw2W ho_5 hli_ i0 i1 i2 k0 k1 hl1_5 hll c0_ c00
          all_goals have hw9 := HW9.out
          all_goals have hw9W := (i64_w _).trans hw9
          all_goals go_wp2
          all_goals go_roundg (gk - 1)
          all_goals first
            | (have := HQ.out; omega)
            | exact ⟨j + 1, a1, pn, p1, by first | rfl | go_num, by first | rfl | go_num, ⟨HQ.out.2.2⟩, ⟨HQ.out.1⟩, HNX, ⟨blk_put (cs' := #[.int .i64 pn, .int .i64 p1]) HGP.out 0 _ rfl⟩, ⟨Below.drew (below_set3 HBW.out HGE.out)⟩⟩
        · replace hway : way = 1 := hway
          subst hway
          replace hqb : q < l1.length := hqb
          have HNX : Aside0 (((O.drop (j + 1)).foldl (stepL l0 l1) (wrap64 (all + wrap64 (rd l1 (q : Int) * p0)), p0, wrap64 (p1 + 1))).1 = LF) := ⟨hnx⟩
          have HL0 : Aside0 (∀ W', Below w3.heap.size w3 W' → W'.cell? ⟨xg, 0, none⟩ = some (.int .i64 1)) := ⟨fun W' hb => (line_cells (line_move HLN.out (hb.block _ (line_lt HLN.out)))).1⟩
          have HL1 : Aside0 (∀ W', Below w3.heap.size w3 W' → W'.cell? ⟨xg, 1, none⟩ = some (.int .i64 (q : Int))) := ⟨fun W' hb => (line_cells (line_move HLN.out (hb.block _ (line_lt HLN.out)))).2⟩
          clear hnx hlt
          obtain ⟨ad0, ea0, hfirst⟩ := Kd.at_int HR1.out (q : Int) (by omega) (by omega)
          cases ea0
          clear hfirst
          have HOWN : Aside0 (∀ W', Below w3.heap.size w3 W' → W'.cell? (ad0.add q) = some (.int .i64 (rd l1 (q : Int)))) := ⟨fun W' hb => by
            obtain ⟨ad1, ea1, h1⟩ := Kd.at_int (Kd.C_below HR1.out (below_step HB.out hb)) (q : Int) (by omega) (by omega)
            cases ea1
            rw [Int.toNat_natCast] at h1
            exact h1⟩
          obtain ⟨cq, hcq⟩ : ∃ z, rd l1 (q : Int) = z := ⟨_, rfl⟩
          rw [hcq] at HOWN HNX
          obtain ⟨m1, hm1⟩ : ∃ z, wrap64 (cq * p0) = z := ⟨_, rfl⟩
          obtain ⟨a1, ha1⟩ : ∃ z, wrap64 (all + m1) = z := ⟨_, rfl⟩
          obtain ⟨pn, hpn⟩ : ∃ z, wrap64 (p1 + 1) = z := ⟨_, rfl⟩
          rw [hm1, ha1, hpn] at HNX
          have M1 := Aside0.mk hm1
          have M2 := Aside0.mk ha1
          have M3 := Aside0.mk hpn
          have i0 : (0 : Int) ≤ (q : Int) := by omega
          have i1 : (q : Int) < (l1.length : Int) := by omega
          have i2 : q < l1.length := by omega
          have hw1W := (i64_w _).trans hm1
          have hw2W := (i64_w _).trans ha1
          have hw3W := (i64_w _).trans hpn
          clear hcq hqb
          go_wp2_with (first | ((with_reducible refine gate_dst (N := 30) rfl ?_); refine lit_event ?hg (N := 30) ?hd (cs := #[.slice A0 l0.length c0, .slice (some ad0) l1.length c1]) (t := 35) (n := 2) ?hr ?_; (case hd => rfl); (case hg => rfl); (case hr => first | (go_simp; done) | (go_simp; rfl)); intro gl hg_ w5 hbox hb; have HBW := Aside0.mk (show Below w3.heap.size w3 w5 from below_step HB3.out hb); have n0_ := Aside0.mk (blk_below HGP.out hb); clear HGP; have HGP := n0_; clear n0_; have hli_ : w5.cell? ⟨gl, 1, none⟩ = some (.slice (some ad0) l1.length c1) := (blk_cell hbox 1).trans rfl; clear hx_ hbox hg_ hb; have hl0_5 : w5.cell? ⟨xg, 0, none⟩ = some (.int .i64 1) := HL0.out w5 HBW.out; have hl1_5 : w5.cell? ⟨xg, 1, none⟩ = some (.int .i64 (q : Int)) := HL1.out w5 HBW.out; have hp0_5 : w5.cell? ⟨gp, 0, none⟩ = some (.int .i64 p0) := (blk_cell HGP.out 0).trans rfl; have hp1_5 : w5.cell? ⟨gp, 1, none⟩ = some (.int .i64 p1) := (blk_cell HGP.out 1).trans rfl; have hz0_5 : w5.frozen? ⟨gp, 0, none⟩ = false := blk_frozen HGP.out 0; have hz1_5 : w5.frozen? ⟨gp, 1, none⟩ = false := blk_frozen HGP.out 1; have ho_5 := HOWN.out w5 HBW.out))
          go_region
          all_goals clear hm1 ha1 hw1W hw2W ho_5 hli_ i0 i1 i2 k0 k1 hl1_5 hll c0_ c00
          all_goals have hw9 := HW9.out
          all_goals have hw9W := (i64_w _).trans hw9
          all_goals go_wp2
          all_goals go_roundg (gk - 1)
          all_goals first
            | (have := HQ.out; omega)
            | exact ⟨j + 1, a1, p0, pn, by first | rfl | go_num, by first | rfl | go_num, ⟨HQ.out.2.2⟩, ⟨HQ.out.1⟩, HNX, ⟨blk_put (cs' := #[.int .i64 p0, .int .i64 pn]) HGP.out 1 _ rfl⟩, ⟨Below.drew (below_set3 HBW.out HGE.out)⟩⟩
      · have hje : j = O.length := by have := hj.out; omega
        have hnx := HNX.out
        rw [List.drop_of_length_le (by omega)] at hnx
        replace hnx : all = LF := hnx
        subst hnx
        have c0_ : decide ((j : Int) < (O.length : Int)) = false := decide_eq_false (by omega)
        have c00 : decide (j < O.length) = false := decide_eq_false hlt
        clear hlt hj hq hje
        go_wp2
        go_ret2
        exact ⟨rfl, below_step HB.out HB3.out⟩
  · have HF := Aside0.mk hf
    clear h hf
    go_enter Try.func23, Try.ntmps23
    go_wp2_with (first | (go_at_call 26; refine (impl_OrderByLines.calls _ _ l0 _ _ l1 _ _ _ HR0.out HC0.out HR1.out HC1.out HF.out).mono ?_; rintro e w3 ⟨v, rfl, hS, hb⟩; obtain ⟨Ao, co, ev⟩ := Kd.R_slice (Kd.S_R hS); subst ev; have HS := Aside0.mk hS; have HB := Aside0.mk hb; clear hS hb))
    go_ret2
    exact ⟨rfl, HB.out⟩
end Go.Proofs.Ythlnpbdjblocfaa.P
