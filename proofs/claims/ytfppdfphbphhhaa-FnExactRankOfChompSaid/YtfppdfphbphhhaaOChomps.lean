/- impl.chomps and its literal: what the calls come to: all chomps that go on with a row list, appended to the list in a box. Conditions: as each states. -/
import Derived.Test.YtfppdfphbphhhaaOLook
import Derived.Test.YtfppdfphbphhhaaOCloneI
import Derived.Deep.AppendLies
import Derived.Deep.RegionLaw
import Derived.BigRegion
namespace Go.Proofs.Ytfppdfphbphhhaa.P
open Go.RowKit Go.Proofs.YtfppdfphbphhhaaW.PrintWords Go.Proofs.YtfppdfphbphhhaaW.PrintLast Go.Proofs.YtfppdfphbphhhaaW.PrintMore
set_option linter.unusedVariables false
set_option linter.unusedSimpArgs false
theorem clone_some (l : List Int) (h : l.length ≤ 1000) : slices_Clone_int_int.f l = some l := by
  unfold slices_Clone_int_int.f
  rw [if_pos (by omega)]
theorem one_news {W : World} {g : Nat} {x : Value} (hc : W.cell? ⟨g, 0, none⟩ = some x) : ∀ (j : Nat) u, [x][j]? = some u → W.cell? ((⟨g, 0, none⟩ : Addr).add j) = some u := by
  intro j u hj
  match j, hj with
  | 0, hj =>
    simp at hj
    subst hj
    simpa [Addr.add] using hc
  | j + 1, hj => simp at hj
theorem new_cell (W : World) (x : Value) (t : TypeId) : (W.alloc (.cells #[x] t)).cell? ⟨W.heap.size, 0, none⟩ = some x := by simp
theorem infoI : ∃ i, Try.prog.info? 3 = some i ∧ i.zero = some (.int .i64 0) ∧ i.size = 1 ∧ i.bytes = 8 := by
  obtain ⟨i, h1, h2⟩ := Option.map_eq_some_iff.1 info3
  simp only [Prod.mk.injEq] at h2
  exact ⟨i, h1, h2.1, h2.2.1, h2.2.2⟩
/-- A cell of an elder block, not the box's and not the row's. -/
theorem cell_Kp {W W1 : World} {B N0 g : Nat} {v x : Value} (hk : Kp W W1 B v) (hc : W.cell? ⟨g, 0, none⟩ = some x) (hg : g ≠ B) (hv : ∀ k, v.ownBlock = some k → N0 ≤ k) (hgN : g < N0) : W1.cell? ⟨g, 0, none⟩ = some x := by
  have h := hk.2 g (World.block_lt_of_cell? W _ hc) hg (fun he => by have := hv g he.symm; omega)
  rw [show W1.cell? ⟨g, 0, none⟩ = W.cell? ⟨g, 0, none⟩ by simp only [World.cell?, h], hc]
set_option maxHeartbeats 16000000 in
set_option maxRecDepth 100000 in
theorem add_any (B Bh Ba N0 : Nat) (hBhN : Bh < N0) (hBh : Bh ≠ B) (hBa : Ba ≠ B) (hi : Int) : ∀ (r most : Nat) (mi : Int), mi = (most : Int) → ∀ (rows : List Int) (vr : Value) (xs : List (List Int)) (v : Value) (w0 W : World) (b0 : Nat), b0 ≤ N0 → b0 ≤ B → Below b0 w0 W → N0 ≤ W.heap.size → OutAt W B N0 v xs → Kd.R (Kd.int .i64) 3 W N0 (fun _ => True) vr rows → rows.length + r ≤ 6 → most ≤ 6 → hi = (rows.length : Int) + (r : Int) → W.cell? ⟨Bh, 0, none⟩ = some (.int .i64 hi) → W.heap[Ba]? = some (.cells #[.func (.func 73) #[] #[.pointer (some ⟨B, 0, none⟩), .pointer (some ⟨Bh, 0, none⟩), .pointer (some ⟨Ba, 0, none⟩)]] 61 (0, 0)) → xs.length + (gen r most rows).length ≤ 1000000 →
    Calls Try.prog 73 #[vr, .int .i64 mi, .pointer (some ⟨B, 0, none⟩), .pointer (some ⟨Bh, 0, none⟩), .pointer (some ⟨Ba, 0, none⟩)] W fun e W' => e = .returned (.tuple #[]) ∧ ∃ v', OutAt W' B N0 v' (xs ++ gen r most rows) ∧ (v'.ownBlock = v.ownBlock ∨ ∃ b, v'.ownBlock = some b ∧ W.heap.size ≤ b) ∧ Below b0 w0 W' ∧ Kp W W' B v := by
  intro r
  induction r with
  | zero =>
    intro most mi hmi rows vr xs v w0 W b0 hbN hb0B hB hN ho hr hrl hm hhi hch hca hl
    obtain ⟨Ar, cr, er⟩ := Kd.R_slice hr
    subst er hmi
    by_cases hrow : 0 < rows.length
    · rw [show gen 0 most rows = [rows] by unfold gen headRow; simp [hrow]] at hl ⊢
      have c0b : decide (0 < (rows.length : Int)) = true := decide_eq_true (by have := hrow; omega)
      have c0c : decide (0 < rows.length) = true := decide_eq_true hrow
      have c1b : ((rows.length : Int) == hi) = true := beq_iff_eq.2 (by omega)
      have hcell : W.cell? ⟨B, 0, none⟩ = some v := by rw [blk_cell ho.box]; rfl
      have HO := Aside0.mk ho
      have HR := Aside0.mk hr
      have HB := Aside0.mk hB
      have HN := Aside0.mk hN
      have HL := Aside0.mk hl
      have HCA := Aside0.mk hca
      have HROW := Aside0.mk hrow
      have HHI := Aside0.mk hhi
      clear ho hr hB hN hl hrow hca hhi
      have HNE := Aside0.mk (Kd.R_ne HO.out.row HCA.out (by decide))
      go_enter Try.func73, Try.ntmps73
      go_wp2_with (first | ((with_reducible refine gate_builtin (b := .append) (xs := #[.tmp 11, .tmp 13]) rfl ?_); at_builtin; refine Kd.R_append (Kd.slice 3 (Kd.int .i64)) (w0 := W) N0 rfl (.tmp 11) (.tmp 13) 35 22 (.slice none 0 0) 24 rfl Try.underlying35 info22 rfl (by decide) (by omega) v xs rows [.slice Ar rows.length cr] (fun _ => True) (fun k_ => some k_ = (.slice Ar rows.length cr : Value).ownBlock) rfl rfl ?aP (own_ne_types HO.out.typed HR.out) (fun _ _ => trivial) HO.out.row (BWW HN.out) HN.out ?aL ?_; (case aP => exact Kd.M_row (Kd.R_tight rfl HR.out)); (case aL => have := HL.out; omega); intro v1 w1 ho1 hb1 hg1 hat1; obtain ⟨g1, cap1, ev1, _, _, _⟩ := Kd.R_form ho1 (by simp); obtain ⟨m1, em1⟩ : ∃ m : Nat, m = (xs ++ [rows]).length := ⟨_, rfl⟩; rw [← em1] at ev1; clear em1; subst ev1; obtain ⟨hcb, hfb, n0, n1, n2, n3⟩ := head_step HO.out HR.out hbN hb0B HB.out ho1 hg1; have hch1 := cell_Kp n2 hch hBh (Kd.R_base HO.out.row) hBhN; have HCA1 := Aside0.mk (Kp.block n2 HCA.out hBa HNE.out); have n0_ := Aside0.mk n0; have n1_ := Aside0.mk n1; have n2_ := Aside0.mk n2; have n3_ := Aside0.mk n3; have HT := Aside0.mk hat1; clear n0 n1 n2 n3 ho1 hb1 hg1 hat1 HO HR HB HCA; have HO := n0_; have HR := n1_; have HK := n2_; have HB := n3_; have HCA := HCA1; clear n0_ n1_ n2_ n3_ HCA1))
      refine bodyPost_ret (results_none rfl _ _ _) rfl ?_
      exact ⟨rfl, _, HO.out, HT.out, HB.out, HK.out⟩
    · rw [show gen 0 most rows = [] by unfold gen headRow; simp [hrow]] at hl ⊢
      have c0b : decide (0 < (rows.length : Int)) = false := decide_eq_false (by have := hrow; omega)
      have c0c : decide (0 < rows.length) = false := decide_eq_false hrow
      have c1b : ((rows.length : Int) == hi) = true := beq_iff_eq.2 (by omega)
      have HK := Aside0.mk (Kp.refl W B v)
      have HO := Aside0.mk ho
      have HR := Aside0.mk hr
      have HB := Aside0.mk hB
      have HN := Aside0.mk hN
      have HL := Aside0.mk hl
      have HCA := Aside0.mk hca
      have HROW := Aside0.mk hrow
      have HHI := Aside0.mk hhi
      clear ho hr hB hN hl hrow hca hhi
      go_enter Try.func73, Try.ntmps73
      go_wp2
      refine bodyPost_ret (results_none rfl _ _ _) rfl ?_
      exact ⟨rfl, v, by simpa using HO.out, .inl rfl, HB.out, HK.out⟩
  | succ r ih =>
    intro most mi hmi rows vr xs v w0 W b0 hbN hb0B hB hN ho hr hrl hm hhi hch hca hl
    obtain ⟨Ar, cr, er⟩ := Kd.R_slice hr
    subst er hmi
    by_cases hrow : 0 < rows.length
    · skip
      have c0b : decide (0 < (rows.length : Int)) = true := decide_eq_true (by have := hrow; omega)
      have c0c : decide (0 < rows.length) = true := decide_eq_true hrow
      have c1b : ((rows.length : Int) == hi) = false := beq_eq_false_iff_ne.2 (by omega)
      have hcell : W.cell? ⟨B, 0, none⟩ = some v := by rw [blk_cell ho.box]; rfl
      have HO := Aside0.mk ho
      have HR := Aside0.mk hr
      have HB := Aside0.mk hB
      have HN := Aside0.mk hN
      have HL := Aside0.mk hl
      have HCA := Aside0.mk hca
      have HROW := Aside0.mk hrow
      have HHI := Aside0.mk hhi
      clear ho hr hB hN hl hrow hca hhi
      have HCA0 := HCA
      have HCH0 := Aside0.mk hch
      have HOW := Aside0.mk HO.out.row
      have HNE := Aside0.mk (Kd.R_ne HO.out.row HCA.out (by decide))
      obtain ⟨i0, hi0, hz0, hz1, hz2⟩ := infoI
      go_enter Try.func73, Try.ntmps73
      go_wp2_with (first | ((with_reducible refine gate_builtin (b := .append) (xs := #[.tmp 11, .tmp 13]) rfl ?_); at_builtin; refine Kd.R_append (Kd.slice 3 (Kd.int .i64)) (w0 := W) N0 rfl (.tmp 11) (.tmp 13) 35 22 (.slice none 0 0) 24 rfl Try.underlying35 info22 rfl (by decide) (by omega) v xs rows [.slice Ar rows.length cr] (fun _ => True) (fun k_ => some k_ = (.slice Ar rows.length cr : Value).ownBlock) rfl rfl ?aP (own_ne_types HO.out.typed HR.out) (fun _ _ => trivial) HO.out.row (BWW HN.out) HN.out ?aL ?_; (case aP => exact Kd.M_row (Kd.R_tight rfl HR.out)); (case aL => have := HL.out; omega); intro v1 w1 ho1 hb1 hg1 hat1; obtain ⟨g1, cap1, ev1, _, _, _⟩ := Kd.R_form ho1 (by simp); obtain ⟨m1, em1⟩ : ∃ m : Nat, m = (xs ++ [rows]).length := ⟨_, rfl⟩; rw [← em1] at ev1; clear em1; subst ev1; obtain ⟨hcb, hfb, n0, n1, n2, n3⟩ := head_step HO.out HR.out hbN hb0B HB.out ho1 hg1; have hch1 := cell_Kp n2 hch hBh (Kd.R_base HO.out.row) hBhN; have HCA1 := Aside0.mk (Kp.block n2 HCA.out hBa HNE.out); have n0_ := Aside0.mk n0; have n1_ := Aside0.mk n1; have n2_ := Aside0.mk n2; have n3_ := Aside0.mk n3; have HT := Aside0.mk hat1; clear n0 n1 n2 n3 ho1 hb1 hg1 hat1 HO HR HB HCA; have HO := n0_; have HR := n1_; have HK := n2_; have HB := n3_; have HCA := HCA1; clear n0_ n1_ n2_ n3_ HCA1))
      go_loopg [7] (most + 1) (fun kq v7 w' => ∃ (n : Nat) (v' : Value), v7 = .int .i64 ((n : Int) + 1) ∧ Aside0 (n ≤ most) ∧ Aside0 (most + 1 - n ≤ kq) ∧ Aside0 (OutAt w' B N0 v' ((xs ++ [rows]) ++ genUp r n rows)) ∧ Aside0 (Kd.R (Kd.int .i64) 3 w' N0 (fun _ => True) (.slice Ar rows.length cr) rows) ∧ Aside0 (v'.ownBlock = v.ownBlock ∨ ∃ b, v'.ownBlock = some b ∧ W.heap.size ≤ b) ∧ Aside0 (Kp W w' B v) ∧ Aside0 (Below b0 w0 w'))
      case atStart => exact ⟨0, _, rfl, ⟨Nat.zero_le _⟩, ⟨Nat.le_refl _⟩, ⟨by rw [genUp_zero, List.append_nil]; exact HO.out⟩, ⟨HR.out⟩, ⟨HT.out⟩, ⟨HK.out⟩, ⟨HB.out⟩⟩
      case round =>
        clear HO HR HT HCA HK HB
        obtain ⟨n, v', rfl, hn, hq, HO, HR, HT, HK, HB⟩ := hrel
        by_cases hlt : n < most
        · have c2b : decide ((n : Int) + 1 ≤ (most : Int)) = true := decide_eq_true (by omega)
          have c2c : decide ((n : Int) < (most : Int)) = true := decide_eq_true (by omega)
          have c2d : decide (n < most) = true := decide_eq_true hlt
          have HQ := Aside0.mk (show most + 1 - (n + 1) ≤ gk - 1 ∧ 0 < gk by have := hq.out; omega)
          have HLT := Aside0.mk hlt
          have HL5 := Aside0.mk (show ((xs ++ [rows]) ++ genUp r n rows).length + (gen r (n + 1) (rows ++ [(n : Int) + 1])).length ≤ 1000000 by
            have := HL.out
            have h2 := genUp_le r rows (show n + 1 ≤ most from hlt)
            rw [genUp_succ', List.length_append] at h2
            rw [gen_succ, List.length_append] at this
            have hh : (headRow rows).length = 1 := (by unfold headRow; simp [HROW.out])
            simp only [List.length_append, List.length_cons, List.length_nil] at *
            omega)
          have e2 : (n : Int) + 1 + 1 ≤ 1000 := by omega
          have e4 : (0 : Int) ≤ (n : Int) + 1 + 1 := by omega
          have hs2 : wrap64 ((n : Int) + 1 + 1) = ((n + 1 : Nat) : Int) + 1 := wrap_small e4 e2
          clear e2 e4
          have NWr := Aside0.mk (show N0 ≤ wr.heap.size from Nat.le_trans HN.out HK.out.1)
          have hAr : wr.cell? ⟨Ba, 0, none⟩ = some (.func (.func 73) #[] #[.pointer (some ⟨B, 0, none⟩), .pointer (some ⟨Bh, 0, none⟩), .pointer (some ⟨Ba, 0, none⟩)]) := by rw [blk_cell (Kp.block HK.out HCA0.out hBa HNE.out)]; rfl
          have hAra : ∀ o : Obj, (wr.alloc o).cell? ⟨Ba, 0, none⟩ = some (.func (.func 73) #[] #[.pointer (some ⟨B, 0, none⟩), .pointer (some ⟨Bh, 0, none⟩), .pointer (some ⟨Ba, 0, none⟩)]) := fun o => ((below_alloc (Below.refl wr.heap.size wr) o).cell (p := ⟨Ba, 0, none⟩) (World.block_lt_of_cell? wr _ hAr)).trans hAr
          clear hq hn hlt
          go_wp2
          go_region_law (first | (go_simp; go_at_call 69; refine (slices_Clone_int_int.calls _ _ rows rows _ ?s1 ?s2 (clone_some rows (by omega))).mono ?_; (case s1 => repeat (first | exact (Kd.R_reads' HR.out).2.2 | (with_reducible refine Kd.C_alloc ?_ _) | (with_reducible refine Kd.C_drewN ?_ _) | (with_reducible refine Kd.C_drew ?_))); (case s2 => exact (Kd.R_reads' HR.out).2.1); rintro e w2 ⟨vf, rfl, hf, hb⟩; have HW2 := Aside0.mk (below_step (by repeat (first | (with_reducible first | exact Below.refl _ _ | apply below_alloc | apply pw_below_drewN | apply below_drew1) | exact Below.refl _ _)) hb : Below wr.heap.size wr w2); have HF := Aside0.mk (Kd.R_lower hf (below_size (by repeat (first | (with_reducible first | exact Below.refl _ _ | apply below_alloc | apply pw_below_drewN | apply below_drew1) | exact Below.refl _ _))) : Kd.R (Kd.int .i64) 3 w2 wr.heap.size (fun _ => True) vf rows); (try have hbx := (hb.cell (p := ⟨wr.heap.size, 0, none⟩) (by simp)).trans (new_cell wr (.int .i64 ((n : Int) + 1)) 3)); have hA2 := (HW2.out.cell (p := ⟨Ba, 0, none⟩) (World.block_lt_of_cell? wr _ hAr)).trans hAr; have hA2a : ∀ o : Obj, (w2.alloc o).cell? ⟨Ba, 0, none⟩ = some (.func (.func 73) #[] #[.pointer (some ⟨B, 0, none⟩), .pointer (some ⟨Bh, 0, none⟩), .pointer (some ⟨Ba, 0, none⟩)]) := fun o => ((below_alloc (Below.refl w2.heap.size w2) o).cell (p := ⟨Ba, 0, none⟩) (World.block_lt_of_cell? w2 _ hA2)).trans hA2; clear hf hb) | (refine step_append_lies _ rfl (.tmp 26) (.tmp 28) 22 rfl wr.heap.size 3 i0 (.int .i64 0) 1 8 Try.underlying22 hi0 hz0 hz1 hz2 rfl (by decide) vf rows.length (encs (Value.int .i64) rows) rfl (Kd.own_of_R (enc := Value.int .i64) (h1 := fun _ => rfl) (by (with_reducible repeat (first | apply Kd.R_alloc | apply Kd.R_drewN | apply Kd.R_drew)); exact HF.out)) ⟨_, 0, none⟩ 1 1 [.int .i64 ((n : Int) + 1)] rfl rfl (one_news (by first | exact hbx | exact new_cell _ _ _)) (by simp [Value.oneCell']) (by decide) (by simp only [maxLen]; omega) (by omega) (below_size (by repeat (first | (with_reducible first | exact HW2.out | apply below_alloc | apply pw_below_drewN | apply below_drew1) | exact HW2.out))) _ rfl ?_; intro g3 cap3 w3 hown3 hg3 hat3 hlt3; obtain ⟨n0, n1, n2, n3⟩ := fresh_step HO.out HR.out (by repeat (first | (with_reducible first | exact HW2.out | apply below_alloc | apply pw_below_drewN | apply below_drew1) | exact HW2.out)) (by (with_reducible repeat (first | apply Kd.R_alloc | apply Kd.R_drewN | apply Kd.R_drew)); exact HF.out) hg3 NWr.out; have HO3 := Aside0.mk n0; have HR3 := Aside0.mk n1; have HK3 := Aside0.mk (n2 HK.out); have HB3 := Aside0.mk (n3 (Nat.le_trans hbN NWr.out) HB.out); have HV := Aside0.mk (Kd.R_lower (Kd.R_of_own (enc := Value.int .i64) (h1 := fun _ => rfl) (xs := rows ++ [(n : Int) + 1]) (by simpa [encs] using hown3) (fun _ _ => trivial)) NWr.out : Kd.R (Kd.int .i64) 3 w3 N0 (fun _ => True) (.slice (some ⟨g3, 0, none⟩) (rows.length + 1) cap3) (rows ++ [(n : Int) + 1])); have HA3 := Aside0.mk (Kp.block HK3.out HCA0.out hBa HNE.out); have hA3 : w3.cell? ⟨Ba, 0, none⟩ = some (.func (.func 73) #[] #[.pointer (some ⟨B, 0, none⟩), .pointer (some ⟨Bh, 0, none⟩), .pointer (some ⟨Ba, 0, none⟩)]) := (by rw [blk_cell HA3.out]; rfl); clear n0 n1 n2 n3 hown3 hg3 hat3 hlt3) | (go_simp; go_at_call 73; refine (ih (n + 1) ((n : Int) + 1) rfl (rows ++ [(n : Int) + 1]) _ _ v' w0 _ b0 hbN hb0B HB3.out (Nat.le_trans HN.out HK3.out.1) HO3.out HV.out ?e1 ?e2 ?e3 ?e4 HA3.out ?e5).mono ?_; (case e1 => simp; omega); (case e2 => have := HLT.out; omega); (case e3 => have := HHI.out; simp; omega); (case e4 => exact cell_Kp HK3.out HCH0.out hBh (Kd.R_base HOW.out) hBhN); (case e5 => exact HL5.out); rintro e w4 ⟨rfl, v5, ho5, hat5, hb5, hk5⟩; have HO4 := Aside0.mk ho5; have HR4 := Aside0.mk (R_Kp HR3.out HO3.out.typed (by decide) HO3.out.box (by decide) hk5); have HK4 := Aside0.mk (HK3.out.trans hk5 HT.out); have HB4 := Aside0.mk hb5; have HT4 := Aside0.mk (hat_trans HT.out hat5 HK3.out.1); clear ho5 hat5 hb5 hk5))
          all_goals go_wp2
          all_goals (go_roundg (gk - 1))
          all_goals (first | (have := HQ.out; omega) | exact ⟨n + 1, v5, (by first | rfl | (simp; done) | (simp [*]; done)), ⟨HLT.out⟩, ⟨HQ.out.1⟩, ⟨by rw [genUp_succ', ← List.append_assoc]; exact HO4.out⟩, ⟨HR4.out⟩, ⟨HT4.out⟩, ⟨HK4.out⟩, ⟨HB4.out⟩⟩)
        · obtain rfl : n = most := by have := hn.out; omega
          have c2b : decide ((n : Int) + 1 ≤ (n : Int)) = false := decide_eq_false (by omega)
          go_wp2
          go_end0
          exact ⟨rfl, v', by rw [gen_succ, show headRow rows = [rows] by unfold headRow; simp [HROW.out], ← List.append_assoc]; exact HO.out, HT.out, HB.out, HK.out⟩
    · skip
      have c0b : decide (0 < (rows.length : Int)) = false := decide_eq_false (by have := hrow; omega)
      have c0c : decide (0 < rows.length) = false := decide_eq_false hrow
      have c1b : ((rows.length : Int) == hi) = false := beq_eq_false_iff_ne.2 (by omega)
      have HK := Aside0.mk (Kp.refl W B v)
      have HO := Aside0.mk ho
      have HR := Aside0.mk hr
      have HB := Aside0.mk hB
      have HN := Aside0.mk hN
      have HL := Aside0.mk hl
      have HCA := Aside0.mk hca
      have HROW := Aside0.mk hrow
      have HHI := Aside0.mk hhi
      clear ho hr hB hN hl hrow hca hhi
      have HCA0 := HCA
      have HCH0 := Aside0.mk hch
      have HOW := Aside0.mk HO.out.row
      have HNE := Aside0.mk (Kd.R_ne HO.out.row HCA.out (by decide))
      obtain ⟨i0, hi0, hz0, hz1, hz2⟩ := infoI
      go_enter Try.func73, Try.ntmps73
      go_wp2
      go_loopg [7] (most + 1) (fun kq v7 w' => ∃ (n : Nat) (v' : Value), v7 = .int .i64 ((n : Int) + 1) ∧ Aside0 (n ≤ most) ∧ Aside0 (most + 1 - n ≤ kq) ∧ Aside0 (OutAt w' B N0 v' (xs ++ genUp r n rows)) ∧ Aside0 (Kd.R (Kd.int .i64) 3 w' N0 (fun _ => True) (.slice Ar rows.length cr) rows) ∧ Aside0 (v'.ownBlock = v.ownBlock ∨ ∃ b, v'.ownBlock = some b ∧ W.heap.size ≤ b) ∧ Aside0 (Kp W w' B v) ∧ Aside0 (Below b0 w0 w'))
      case atStart => exact ⟨0, _, rfl, ⟨Nat.zero_le _⟩, ⟨Nat.le_refl _⟩, ⟨by rw [genUp_zero, List.append_nil]; exact HO.out⟩, ⟨HR.out⟩, ⟨.inl rfl⟩, ⟨HK.out⟩, ⟨HB.out⟩⟩
      case round =>
        clear HO HR HCA HK HB
        obtain ⟨n, v', rfl, hn, hq, HO, HR, HT, HK, HB⟩ := hrel
        by_cases hlt : n < most
        · have c2b : decide ((n : Int) + 1 ≤ (most : Int)) = true := decide_eq_true (by omega)
          have c2c : decide ((n : Int) < (most : Int)) = true := decide_eq_true (by omega)
          have c2d : decide (n < most) = true := decide_eq_true hlt
          have HQ := Aside0.mk (show most + 1 - (n + 1) ≤ gk - 1 ∧ 0 < gk by have := hq.out; omega)
          have HLT := Aside0.mk hlt
          have HL5 := Aside0.mk (show (xs ++ genUp r n rows).length + (gen r (n + 1) (rows ++ [(n : Int) + 1])).length ≤ 1000000 by
            have := HL.out
            have h2 := genUp_le r rows (show n + 1 ≤ most from hlt)
            rw [genUp_succ', List.length_append] at h2
            rw [gen_succ, List.length_append] at this
            have hh : (headRow rows).length = 0 := (by unfold headRow; simp [HROW.out])
            simp only [List.length_append, List.length_cons, List.length_nil] at *
            omega)
          have e2 : (n : Int) + 1 + 1 ≤ 1000 := by omega
          have e4 : (0 : Int) ≤ (n : Int) + 1 + 1 := by omega
          have hs2 : wrap64 ((n : Int) + 1 + 1) = ((n + 1 : Nat) : Int) + 1 := wrap_small e4 e2
          clear e2 e4
          have NWr := Aside0.mk (show N0 ≤ wr.heap.size from Nat.le_trans HN.out HK.out.1)
          have hAr : wr.cell? ⟨Ba, 0, none⟩ = some (.func (.func 73) #[] #[.pointer (some ⟨B, 0, none⟩), .pointer (some ⟨Bh, 0, none⟩), .pointer (some ⟨Ba, 0, none⟩)]) := by rw [blk_cell (Kp.block HK.out HCA0.out hBa HNE.out)]; rfl
          have hAra : ∀ o : Obj, (wr.alloc o).cell? ⟨Ba, 0, none⟩ = some (.func (.func 73) #[] #[.pointer (some ⟨B, 0, none⟩), .pointer (some ⟨Bh, 0, none⟩), .pointer (some ⟨Ba, 0, none⟩)]) := fun o => ((below_alloc (Below.refl wr.heap.size wr) o).cell (p := ⟨Ba, 0, none⟩) (World.block_lt_of_cell? wr _ hAr)).trans hAr
          clear hq hn hlt
          go_wp2
          go_region_law (first | (go_simp; go_at_call 69; refine (slices_Clone_int_int.calls _ _ rows rows _ ?s1 ?s2 (clone_some rows (by omega))).mono ?_; (case s1 => repeat (first | exact (Kd.R_reads' HR.out).2.2 | (with_reducible refine Kd.C_alloc ?_ _) | (with_reducible refine Kd.C_drewN ?_ _) | (with_reducible refine Kd.C_drew ?_))); (case s2 => exact (Kd.R_reads' HR.out).2.1); rintro e w2 ⟨vf, rfl, hf, hb⟩; have HW2 := Aside0.mk (below_step (by repeat (first | (with_reducible first | exact Below.refl _ _ | apply below_alloc | apply pw_below_drewN | apply below_drew1) | exact Below.refl _ _)) hb : Below wr.heap.size wr w2); have HF := Aside0.mk (Kd.R_lower hf (below_size (by repeat (first | (with_reducible first | exact Below.refl _ _ | apply below_alloc | apply pw_below_drewN | apply below_drew1) | exact Below.refl _ _))) : Kd.R (Kd.int .i64) 3 w2 wr.heap.size (fun _ => True) vf rows); (try have hbx := (hb.cell (p := ⟨wr.heap.size, 0, none⟩) (by simp)).trans (new_cell wr (.int .i64 ((n : Int) + 1)) 3)); have hA2 := (HW2.out.cell (p := ⟨Ba, 0, none⟩) (World.block_lt_of_cell? wr _ hAr)).trans hAr; have hA2a : ∀ o : Obj, (w2.alloc o).cell? ⟨Ba, 0, none⟩ = some (.func (.func 73) #[] #[.pointer (some ⟨B, 0, none⟩), .pointer (some ⟨Bh, 0, none⟩), .pointer (some ⟨Ba, 0, none⟩)]) := fun o => ((below_alloc (Below.refl w2.heap.size w2) o).cell (p := ⟨Ba, 0, none⟩) (World.block_lt_of_cell? w2 _ hA2)).trans hA2; clear hf hb) | (refine step_append_lies _ rfl (.tmp 26) (.tmp 28) 22 rfl wr.heap.size 3 i0 (.int .i64 0) 1 8 Try.underlying22 hi0 hz0 hz1 hz2 rfl (by decide) vf rows.length (encs (Value.int .i64) rows) rfl (Kd.own_of_R (enc := Value.int .i64) (h1 := fun _ => rfl) (by (with_reducible repeat (first | apply Kd.R_alloc | apply Kd.R_drewN | apply Kd.R_drew)); exact HF.out)) ⟨_, 0, none⟩ 1 1 [.int .i64 ((n : Int) + 1)] rfl rfl (one_news (by first | exact hbx | exact new_cell _ _ _)) (by simp [Value.oneCell']) (by decide) (by simp only [maxLen]; omega) (by omega) (below_size (by repeat (first | (with_reducible first | exact HW2.out | apply below_alloc | apply pw_below_drewN | apply below_drew1) | exact HW2.out))) _ rfl ?_; intro g3 cap3 w3 hown3 hg3 hat3 hlt3; obtain ⟨n0, n1, n2, n3⟩ := fresh_step HO.out HR.out (by repeat (first | (with_reducible first | exact HW2.out | apply below_alloc | apply pw_below_drewN | apply below_drew1) | exact HW2.out)) (by (with_reducible repeat (first | apply Kd.R_alloc | apply Kd.R_drewN | apply Kd.R_drew)); exact HF.out) hg3 NWr.out; have HO3 := Aside0.mk n0; have HR3 := Aside0.mk n1; have HK3 := Aside0.mk (n2 HK.out); have HB3 := Aside0.mk (n3 (Nat.le_trans hbN NWr.out) HB.out); have HV := Aside0.mk (Kd.R_lower (Kd.R_of_own (enc := Value.int .i64) (h1 := fun _ => rfl) (xs := rows ++ [(n : Int) + 1]) (by simpa [encs] using hown3) (fun _ _ => trivial)) NWr.out : Kd.R (Kd.int .i64) 3 w3 N0 (fun _ => True) (.slice (some ⟨g3, 0, none⟩) (rows.length + 1) cap3) (rows ++ [(n : Int) + 1])); have HA3 := Aside0.mk (Kp.block HK3.out HCA0.out hBa HNE.out); have hA3 : w3.cell? ⟨Ba, 0, none⟩ = some (.func (.func 73) #[] #[.pointer (some ⟨B, 0, none⟩), .pointer (some ⟨Bh, 0, none⟩), .pointer (some ⟨Ba, 0, none⟩)]) := (by rw [blk_cell HA3.out]; rfl); clear n0 n1 n2 n3 hown3 hg3 hat3 hlt3) | (go_simp; go_at_call 73; refine (ih (n + 1) ((n : Int) + 1) rfl (rows ++ [(n : Int) + 1]) _ _ v' w0 _ b0 hbN hb0B HB3.out (Nat.le_trans HN.out HK3.out.1) HO3.out HV.out ?e1 ?e2 ?e3 ?e4 HA3.out ?e5).mono ?_; (case e1 => simp; omega); (case e2 => have := HLT.out; omega); (case e3 => have := HHI.out; simp; omega); (case e4 => exact cell_Kp HK3.out HCH0.out hBh (Kd.R_base HOW.out) hBhN); (case e5 => exact HL5.out); rintro e w4 ⟨rfl, v5, ho5, hat5, hb5, hk5⟩; have HO4 := Aside0.mk ho5; have HR4 := Aside0.mk (R_Kp HR3.out HO3.out.typed (by decide) HO3.out.box (by decide) hk5); have HK4 := Aside0.mk (HK3.out.trans hk5 HT.out); have HB4 := Aside0.mk hb5; have HT4 := Aside0.mk (hat_trans HT.out hat5 HK3.out.1); clear ho5 hat5 hb5 hk5))
          all_goals go_wp2
          all_goals (go_roundg (gk - 1))
          all_goals (first | (have := HQ.out; omega) | exact ⟨n + 1, v5, (by first | rfl | (simp; done) | (simp [*]; done)), ⟨HLT.out⟩, ⟨HQ.out.1⟩, ⟨by rw [genUp_succ', ← List.append_assoc]; exact HO4.out⟩, ⟨HR4.out⟩, ⟨HT4.out⟩, ⟨HK4.out⟩, ⟨HB4.out⟩⟩)
        · obtain rfl : n = most := by have := hn.out; omega
          have c2b : decide ((n : Int) + 1 ≤ (n : Int)) = false := decide_eq_false (by omega)
          go_wp2
          go_end0
          exact ⟨rfl, v', by rw [gen_succ, show headRow rows = [] by unfold headRow; simp [HROW.out], List.nil_append]; exact HO.out, HT.out, HB.out, HK.out⟩
end Go.Proofs.Ytfppdfphbphhhaa.P
