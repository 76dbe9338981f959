/- spec.cmLook, spec.cmAll: what the calls come to: all chomps that go on with a row list, appended to the list in a box. Conditions: as each states. -/
import Derived.Test.YtfppdfphbphhhaaOGen
import Derived.Test.YtfppdfphbphhhaaPx50
namespace Go.Proofs.Ytfppdfphbphhhaa.P
open Go.RowKit Go.Proofs.YtfppdfphbphhhaaW.PrintWords Go.Proofs.YtfppdfphbphhhaaW.PrintLast Go.Proofs.YtfppdfphbphhhaaW.PrintMore
set_option linter.unusedVariables false
set_option linter.unusedSimpArgs false
theorem genUp_succ' (r n : Nat) (rows : List Int) : genUp r (n + 1) rows = genUp r n rows ++ gen r (n + 1) (rows ++ [(n : Int) + 1]) := genUp_succ r n rows
theorem wrap_small {x : Int} (h0 : 0 ≤ x) (h1 : x ≤ 1000) : wrap64 x = x := by
  unfold wrap64
  omega
theorem own_some (l : List Int) (h : l.length ≤ 1000) : spec_l1Own.f l = some l := by
  unfold spec_l1Own.f
  simp only [Option.bind_some, List.nil_append]
  rw [if_pos (by simp; omega)]
section
variable {W w1 w2 w3 wr w0 : World} {B N0 b0 : Nat} {v v1 v' vr vf : Value} {xs : List (List Int)} {rows ys : List Int}
theorem BWW {N0 : Nat} {W : World} (h : N0 ≤ W.heap.size) : Below N0 W W := Below.refl _ _
theorem own_ne_types (hv : ∀ k, v.ownBlock = some k → ∃ cells, W.heap[k]? = some (.cells cells 22 (0, 0))) (hr : Kd.R (Kd.int .i64) 3 W N0 (fun _ => True) vr rows) : ∀ k, some k = vr.ownBlock → True ∧ some k ≠ v.ownBlock := fun k hk => ⟨trivial, fun he => by
  obtain ⟨c1, h1⟩ := hv k he.symm
  obtain ⟨c2, h2⟩ := Kd.R_typed hr k hk.symm
  rw [h1] at h2
  injection h2 with h2
  injection h2 with _ h2
  exact absurd h2 (by decide)⟩
theorem hat_trans {W1 : World} {v2 : Value} (h1 : v1.ownBlock = v.ownBlock ∨ ∃ b, v1.ownBlock = some b ∧ W.heap.size ≤ b) (h2 : v2.ownBlock = v1.ownBlock ∨ ∃ b, v2.ownBlock = some b ∧ W1.heap.size ≤ b) (hs : W.heap.size ≤ W1.heap.size) : v2.ownBlock = v.ownBlock ∨ ∃ b, v2.ownBlock = some b ∧ W.heap.size ≤ b := by
  rcases h2 with h2 | ⟨b, h2, hb⟩
  · rw [h2]; exact h1
  · exact .inr ⟨b, h2, Nat.le_trans hs hb⟩
/-- A row appended to the list in the box, and the box set. -/
theorem head_step (ho : OutAt W B N0 v xs) (hr : Kd.R (Kd.int .i64) 3 W N0 (fun _ => True) vr rows) (hbN : b0 ≤ N0) (hb0B : b0 ≤ B) (hB : Below b0 w0 W) {xs1 : List (List Int)} (ho1 : Kd.R (Kd.slice 3 (Kd.int .i64)) 22 w1 N0 (fun _ => True) v1 xs1) (hg1 : W.grownBy w1 v.ownBlock) :
    w1.cell? ⟨B, 0, none⟩ = some v ∧ w1.frozen? ⟨B, 0, none⟩ = false ∧ OutAt (w1.setCell ⟨B, 0, none⟩ v1) B N0 v1 xs1 ∧ Kd.R (Kd.int .i64) 3 (w1.setCell ⟨B, 0, none⟩ v1) N0 (fun _ => True) vr rows ∧ Kp W (w1.setCell ⟨B, 0, none⟩ v1) B v ∧ Below b0 w0 (w1.setCell ⟨B, 0, none⟩ v1) := by
  have hbx : w1.heap[B]? = some (.cells #[v] 35 (0, 0)) := (hg1.block B (blk_lt ho.box) (Kd.R_ne ho.row ho.box (by decide))).trans ho.box
  have hk : Kp W w1 B v := Kp.grown (Kp.refl W B v) hg1 (fun k hk => .inr hk)
  have hbs : b0 ≤ W.heap.size := Nat.le_trans hb0B (Nat.le_of_lt (blk_lt ho.box))
  have hb1 : Below b0 w0 w1 := pw_below_grown hB _ hbs hg1 (fun k hk => by have := Kd.R_base ho.row k hk; omega)
  exact ⟨by rw [blk_cell hbx]; rfl, blk_frozen hbx 0, ⟨by rw [blk_set hbx]; rfl, R_box ho1 hbx (by decide) v1⟩, R_box (R_Kp hr ho.typed (by decide) ho.box (by decide) hk) hbx (by decide) v1, hk.set v1, hb1.setCell hb0B _⟩
/-- A row made anew and appended to: what lay lies on. -/
theorem R_fresh {α : Type} {d : Kd α} {e : Nat} {ok : Nat → Prop} {u : Value} {zs : List α} (h : d.R e wr N0 ok u zs) (hb : Below wr.heap.size wr w2) (hf : Kd.R (Kd.int .i64) 3 w2 wr.heap.size (fun _ => True) vf ys) (hg : w2.grownBy w3 vf.ownBlock) : d.R e w3 N0 ok u zs :=
  Kd.R_mono (Kd.R_grown (Kd.R_below (Kd.R_bound h) hb) hg (fun k hk he => by
    have := Kd.R_base hf k he.symm
    have := hk.2.2.1
    omega)) (fun _ h => h.1)
theorem fresh_step (ho : OutAt wr B N0 v' xs) (hr : Kd.R (Kd.int .i64) 3 wr N0 (fun _ => True) vr rows) (hb : Below wr.heap.size wr w2) (hf : Kd.R (Kd.int .i64) 3 w2 wr.heap.size (fun _ => True) vf ys) (hg : w2.grownBy w3 vf.ownBlock) (hN : N0 ≤ wr.heap.size) :
    OutAt w3 B N0 v' xs ∧ Kd.R (Kd.int .i64) 3 w3 N0 (fun _ => True) vr rows ∧ (Kp W wr B v → Kp W w3 B v) ∧ (b0 ≤ wr.heap.size → Below b0 w0 wr → Below b0 w0 w3) :=
  ⟨⟨(hg.block B (Nat.lt_of_lt_of_le (blk_lt ho.box) hb.size) (fun he => by have := Kd.R_base hf B he.symm; have := blk_lt ho.box; omega)).trans ((hb.block B (blk_lt ho.box)).trans ho.box), R_fresh ho.row hb hf hg⟩, R_fresh hr hb hf hg,
    fun hk => (hk.below hb).grown hg (fun k hk' => .inl (Nat.le_trans hk.1 (Kd.R_base hf k hk'))),
    fun hle hB => pw_below_grown (hB.trans (hb.mono hle)) _ (Nat.le_trans hle hb.size) hg (fun k hk => Nat.le_trans hle (Kd.R_base hf k hk))⟩
end
set_option maxHeartbeats 8000000 in
set_option maxRecDepth 100000 in
theorem look_any (B N0 : Nat) : ∀ (r most : Nat) (ri mi : Int), ri = (r : Int) → mi = (most : Int) → ∀ (rows : List Int) (vr : Value) (xs : List (List Int)) (v : Value) (w0 W : World) (b0 : Nat), b0 ≤ N0 → b0 ≤ B → Below b0 w0 W → N0 ≤ W.heap.size → OutAt W B N0 v xs → Kd.R (Kd.int .i64) 3 W N0 (fun _ => True) vr rows → rows.length + r ≤ 6 → most ≤ 6 → xs.length + (gen r most rows).length ≤ 1000000 →
    Calls Try.prog 72 #[.int .i64 mi, .int .i64 ri, vr, .pointer (some ⟨B, 0, none⟩)] W fun e W' => e = .returned (.tuple #[]) ∧ ∃ v', OutAt W' B N0 v' (xs ++ gen r most rows) ∧ (v'.ownBlock = v.ownBlock ∨ ∃ b, v'.ownBlock = some b ∧ W.heap.size ≤ b) ∧ Below b0 w0 W' ∧ Kp W W' B v := by
  intro r
  induction r with
  | zero =>
    intro most ri mi hri hmi rows vr xs v w0 W b0 hbN hb0B hB hN ho hr hrl hm hl
    obtain ⟨Ar, cr, er⟩ := Kd.R_slice hr
    subst er
    subst hri hmi
    by_cases hrow : 0 < rows.length
    · rw [show gen 0 most rows = [rows] by unfold gen headRow; simp [hrow]] at hl ⊢
      have c0b : decide (0 < (rows.length : Int)) = true := decide_eq_true (by have := hrow; omega)
      have c0c : decide (0 < rows.length) = true := decide_eq_true hrow
      have hcell : W.cell? ⟨B, 0, none⟩ = some v := by rw [blk_cell ho.box]; rfl
      have HO := Aside0.mk ho
      have HR := Aside0.mk hr
      have HB := Aside0.mk hB
      have HN := Aside0.mk hN
      have HL := Aside0.mk hl
      clear ho hr hB hN hl hrow
      go_enter Try.func72, Try.ntmps72
      go_wp2_with (first | ((with_reducible refine gate_builtin (b := .append) (xs := #[.tmp 15, .tmp 17]) rfl ?_); at_builtin; refine Kd.R_append (Kd.slice 3 (Kd.int .i64)) (w0 := W) N0 rfl (.tmp 15) (.tmp 17) 35 22 (.slice none 0 0) 24 rfl Try.underlying35 info22 rfl (by decide) (by omega) v xs rows [.slice Ar rows.length cr] (fun _ => True) (fun k_ => some k_ = (.slice Ar rows.length cr : Value).ownBlock) rfl rfl ?aP (own_ne_types HO.out.typed HR.out) (fun _ _ => trivial) HO.out.row (BWW HN.out) HN.out ?aL ?_; (case aP => exact Kd.M_row (Kd.R_tight rfl HR.out)); (case aL => have := HL.out; omega); intro v1 w1 ho1 hb1 hg1 hat1; obtain ⟨g1, cap1, ev1, _, _, _⟩ := Kd.R_form ho1 (by simp); obtain ⟨m1, em1⟩ : ∃ m : Nat, m = (xs ++ [rows]).length := ⟨_, rfl⟩; rw [← em1] at ev1; clear em1; subst ev1; obtain ⟨hcb, hfb, n0, n1, n2, n3⟩ := head_step HO.out HR.out hbN hb0B HB.out ho1 hg1; have n0_ := Aside0.mk n0; have n1_ := Aside0.mk n1; have n2_ := Aside0.mk n2; have n3_ := Aside0.mk n3; have HT := Aside0.mk hat1; clear n0 n1 n2 n3 ho1 hb1 hg1 hat1 HO HR HB; have HO := n0_; have HR := n1_; have HK := n2_; have HB := n3_; clear n0_ n1_ n2_ n3_))
      refine bodyPost_ret (results_none rfl _ _ _) rfl ?_
      exact ⟨rfl, _, HO.out, HT.out, HB.out, HK.out⟩
    · rw [show gen 0 most rows = [] by unfold gen headRow; simp [hrow]] at hl ⊢
      have c0b : decide (0 < (rows.length : Int)) = false := decide_eq_false (by have := hrow; omega)
      have c0c : decide (0 < rows.length) = false := decide_eq_false hrow
      have HK := Aside0.mk (Kp.refl W B v)
      have HO := Aside0.mk ho
      have HR := Aside0.mk hr
      have HB := Aside0.mk hB
      have HN := Aside0.mk hN
      have HL := Aside0.mk hl
      clear ho hr hB hN hl hrow
      go_enter Try.func72, Try.ntmps72
      go_wp2
      refine bodyPost_ret (results_none rfl _ _ _) rfl ?_
      exact ⟨rfl, v, by simpa using HO.out, .inl rfl, HB.out, HK.out⟩
  | succ r ih =>
    intro most ri mi hri hmi rows vr xs v w0 W b0 hbN hb0B hB hN ho hr hrl hm hl
    obtain ⟨Ar, cr, er⟩ := Kd.R_slice hr
    subst er
    subst hri hmi
    by_cases hrow : 0 < rows.length
    · skip
      have c0b : decide (0 < (rows.length : Int)) = true := decide_eq_true (by have := hrow; omega)
      have c0c : decide (0 < rows.length) = true := decide_eq_true hrow
      have c1b : decide ((r : Int) + 1 = 0) = false := decide_eq_false (by omega)
      have hcell : W.cell? ⟨B, 0, none⟩ = some v := by rw [blk_cell ho.box]; rfl
      have HO := Aside0.mk ho
      have HR := Aside0.mk hr
      have HB := Aside0.mk hB
      have HN := Aside0.mk hN
      have HL := Aside0.mk hl
      have HROW := Aside0.mk hrow
      clear ho hr hB hN hl hrow
      go_enter Try.func72, Try.ntmps72
      go_wp2_with (first | ((with_reducible refine gate_builtin (b := .append) (xs := #[.tmp 15, .tmp 17]) rfl ?_); at_builtin; refine Kd.R_append (Kd.slice 3 (Kd.int .i64)) (w0 := W) N0 rfl (.tmp 15) (.tmp 17) 35 22 (.slice none 0 0) 24 rfl Try.underlying35 info22 rfl (by decide) (by omega) v xs rows [.slice Ar rows.length cr] (fun _ => True) (fun k_ => some k_ = (.slice Ar rows.length cr : Value).ownBlock) rfl rfl ?aP (own_ne_types HO.out.typed HR.out) (fun _ _ => trivial) HO.out.row (BWW HN.out) HN.out ?aL ?_; (case aP => exact Kd.M_row (Kd.R_tight rfl HR.out)); (case aL => have := HL.out; omega); intro v1 w1 ho1 hb1 hg1 hat1; obtain ⟨g1, cap1, ev1, _, _, _⟩ := Kd.R_form ho1 (by simp); obtain ⟨m1, em1⟩ : ∃ m : Nat, m = (xs ++ [rows]).length := ⟨_, rfl⟩; rw [← em1] at ev1; clear em1; subst ev1; obtain ⟨hcb, hfb, n0, n1, n2, n3⟩ := head_step HO.out HR.out hbN hb0B HB.out ho1 hg1; have n0_ := Aside0.mk n0; have n1_ := Aside0.mk n1; have n2_ := Aside0.mk n2; have n3_ := Aside0.mk n3; have HT := Aside0.mk hat1; clear n0 n1 n2 n3 ho1 hb1 hg1 hat1 HO HR HB; have HO := n0_; have HR := n1_; have HK := n2_; have HB := n3_; clear n0_ n1_ n2_ n3_))
      go_loopg [8] (most + 1) (fun kq v8 w' => ∃ (n : Nat) (v' : Value), v8 = .int .i64 ((n : Int) + 1) ∧ Aside0 (n ≤ most) ∧ Aside0 (most + 1 - n ≤ kq) ∧ Aside0 (OutAt w' B N0 v' ((xs ++ [rows]) ++ genUp r n rows)) ∧ Aside0 (Kd.R (Kd.int .i64) 3 w' N0 (fun _ => True) (.slice Ar rows.length cr) rows) ∧ Aside0 (v'.ownBlock = v.ownBlock ∨ ∃ b, v'.ownBlock = some b ∧ W.heap.size ≤ b) ∧ Aside0 (Kp W w' B v) ∧ Aside0 (Below b0 w0 w'))
      case atStart => exact ⟨0, _, rfl, ⟨Nat.zero_le _⟩, ⟨Nat.le_refl _⟩, ⟨by rw [genUp_zero, List.append_nil]; exact HO.out⟩, ⟨HR.out⟩, ⟨HT.out⟩, ⟨HK.out⟩, ⟨HB.out⟩⟩
      case round =>
        clear HO HR HT HK HB
        have NOP := trivial
        obtain ⟨n, v', rfl, hn, hq, HO, HR, HT, HK, HB⟩ := hrel
        by_cases hlt : n < most
        · have c2b : decide ((n : Int) + 1 ≤ (most : Int)) = true := decide_eq_true (by omega)
          have c2c : decide ((n : Int) < (most : Int)) = true := decide_eq_true (by omega)
          have c2d : decide (n < most) = true := decide_eq_true hlt
          have HQ := Aside0.mk (show most + 1 - (n + 1) ≤ gk - 1 ∧ 0 < gk by have := hq.out; omega)
          have HLT := Aside0.mk hlt
          have e1 : (r : Int) + 1 - 1 = (r : Int) := by omega
          have e2 : (n : Int) + 1 + 1 ≤ 1000 := by omega
          have e3 : (r : Int) ≤ 1000 := by omega
          have e4 : (0 : Int) ≤ (n : Int) + 1 + 1 := by omega
          have hs1 : wrap64 ((r : Int) + 1 - 1) = (r : Int) := by rw [e1]; exact wrap_small (Int.natCast_nonneg r) e3
          have hs2 : wrap64 ((n : Int) + 1 + 1) = ((n + 1 : Nat) : Int) + 1 := wrap_small e4 e2
          clear e1 e2 e3 e4
          have NWr := Aside0.mk (show N0 ≤ wr.heap.size from Nat.le_trans HN.out HK.out.1)
          clear hq hn hlt
          go_wp2_with (first | ((with_reducible refine gate_callee (f := 77) rfl ?_); refine goesL_ (some 31) rfl rfl Try.func77 (by kernel_rfl) rfl #[.slice Ar rows.length cr] rfl (by (try simp only [List.map_toArray, List.map_cons, List.map_nil]); first | done | rfl) ?_; (with_reducible refine (spec_l1Own.calls _ _ rows rows _ ?side1 ?side2 (own_some rows (by omega))).mono ?_); (case side1 => repeat (first | exact (Kd.R_reads' HR.out).2.2 | (with_reducible refine Kd.C_alloc ?_ _) | (with_reducible refine Kd.C_drewN ?_ _) | (with_reducible refine Kd.C_drew ?_))); (case side2 => exact (Kd.R_reads' HR.out).2.1); rintro e w2 ⟨vf, rfl, hf, hb⟩; refine ⟨_, rfl, ?_⟩; have HF := Aside0.mk hf; have HBF := Aside0.mk hb; clear hf hb) | ((with_reducible refine gate_builtin (b := .append) (xs := #[.tmp 31, .tmp 33]) rfl ?_); at_builtin; refine Kd.R_append (Kd.int .i64) (w0 := w2) wr.heap.size rfl (.tmp 31) (.tmp 33) 22 3 (.int .i64 0) 8 rfl Try.underlying22 info3 rfl (by decide) (by omega) vf rows ((n : Int) + 1) [.int .i64 ((n : Int) + 1)] (fun _ => True) (fun _ => False) rfl rfl ?aP (fun _ hk => hk.elim) (fun _ _ => trivial) HF.out (BWW HBF.out.size) HBF.out.size ?aL ?_; (case aP => exact rfl); (case aL => omega); intro v34 w3 ho3 hb3 hg3 hat3; obtain ⟨n0, n1, n2, n3⟩ := fresh_step HO.out HR.out HBF.out HF.out hg3 NWr.out; have n0_ := Aside0.mk n0; have n1_ := Aside0.mk n1; have n2_ := Aside0.mk (n2 HK.out); have n3_ := Aside0.mk (n3 (Nat.le_trans hbN NWr.out) HB.out); have HV := Aside0.mk (Kd.R_lower ho3 NWr.out); clear n0 n1 n2 n3 ho3 hb3 hg3 hat3 HO HR HK HB HF HBF; have HO := n0_; have HR := n1_; have HK := n2_; have HB := n3_; clear n0_ n1_ n2_ n3_))
          (refine (ih (n + 1) (r : Int) ((n : Int) + 1) rfl rfl (rows ++ [(n : Int) + 1]) v34 _ v' w0 _ b0 hbN hb0B HB.out (Nat.le_trans HN.out HK.out.1) HO.out HV.out ?l1 ?l2 ?l3).mono ?_)
          (case l1 => simp; omega)
          (case l2 => have := HLT.out; omega)
          (case l3 => have := HL.out; have h2 := genUp_le r rows (show n + 1 ≤ most from HLT.out); rw [genUp_succ', List.length_append] at h2; rw [gen_succ, List.length_append] at this; have hh : (headRow rows).length = 1 := (by unfold headRow; simp [HROW.out]); simp only [List.length_append, List.length_cons, List.length_nil] at *; omega)
          rintro e w4 ⟨rfl, v5, ho5, hat5, hb5, hk5⟩
          have n0_ := Aside0.mk ho5
          have n1_ := Aside0.mk (R_Kp HR.out HO.out.typed (by decide) HO.out.box (by decide) hk5)
          have n2_ := Aside0.mk (HK.out.trans hk5 HT.out)
          have n3_ := Aside0.mk hb5
          have n4_ := Aside0.mk (hat_trans HT.out hat5 HK.out.1)
          clear ho5 hat5 hb5 hk5 HO HR HK HB HV HT
          have HO := n0_
          have HR := n1_
          have HK := n2_
          have HB := n3_
          have HT := n4_
          clear n0_ n1_ n2_ n3_ n4_
          go_wp2
          go_roundg (gk - 1)
          case measure => have := HQ.out; omega
          case rel => exact ⟨n + 1, v5, (by first | rfl | (simp; done) | (simp [*]; done)), ⟨HLT.out⟩, ⟨HQ.out.1⟩, ⟨by rw [genUp_succ', ← List.append_assoc]; exact HO.out⟩, ⟨HR.out⟩, ⟨HT.out⟩, ⟨HK.out⟩, ⟨HB.out⟩⟩
        · obtain rfl : n = most := by have := hn.out; omega
          have c2b : decide ((n : Int) + 1 ≤ (n : Int)) = false := decide_eq_false (by omega)
          go_wp2
          go_end0
          exact ⟨rfl, v', by rw [gen_succ, show headRow rows = [rows] by unfold headRow; simp [HROW.out], ← List.append_assoc]; exact HO.out, HT.out, HB.out, HK.out⟩
    · skip
      have c0b : decide (0 < (rows.length : Int)) = false := decide_eq_false (by have := hrow; omega)
      have c0c : decide (0 < rows.length) = false := decide_eq_false hrow
      have c1b : decide ((r : Int) + 1 = 0) = false := decide_eq_false (by omega)
      have HK := Aside0.mk (Kp.refl W B v)
      have HO := Aside0.mk ho
      have HR := Aside0.mk hr
      have HB := Aside0.mk hB
      have HN := Aside0.mk hN
      have HL := Aside0.mk hl
      have HROW := Aside0.mk hrow
      clear ho hr hB hN hl hrow
      go_enter Try.func72, Try.ntmps72
      go_wp2
      go_loopg [8] (most + 1) (fun kq v8 w' => ∃ (n : Nat) (v' : Value), v8 = .int .i64 ((n : Int) + 1) ∧ Aside0 (n ≤ most) ∧ Aside0 (most + 1 - n ≤ kq) ∧ Aside0 (OutAt w' B N0 v' (xs ++ genUp r n rows)) ∧ Aside0 (Kd.R (Kd.int .i64) 3 w' N0 (fun _ => True) (.slice Ar rows.length cr) rows) ∧ Aside0 (v'.ownBlock = v.ownBlock ∨ ∃ b, v'.ownBlock = some b ∧ W.heap.size ≤ b) ∧ Aside0 (Kp W w' B v) ∧ Aside0 (Below b0 w0 w'))
      case atStart => exact ⟨0, _, rfl, ⟨Nat.zero_le _⟩, ⟨Nat.le_refl _⟩, ⟨by rw [genUp_zero, List.append_nil]; exact HO.out⟩, ⟨HR.out⟩, ⟨.inl rfl⟩, ⟨HK.out⟩, ⟨HB.out⟩⟩
      case round =>
        clear HO HR  HK HB
        have NOP := trivial
        obtain ⟨n, v', rfl, hn, hq, HO, HR, HT, HK, HB⟩ := hrel
        by_cases hlt : n < most
        · have c2b : decide ((n : Int) + 1 ≤ (most : Int)) = true := decide_eq_true (by omega)
          have c2c : decide ((n : Int) < (most : Int)) = true := decide_eq_true (by omega)
          have c2d : decide (n < most) = true := decide_eq_true hlt
          have HQ := Aside0.mk (show most + 1 - (n + 1) ≤ gk - 1 ∧ 0 < gk by have := hq.out; omega)
          have HLT := Aside0.mk hlt
          have e1 : (r : Int) + 1 - 1 = (r : Int) := by omega
          have e2 : (n : Int) + 1 + 1 ≤ 1000 := by omega
          have e3 : (r : Int) ≤ 1000 := by omega
          have e4 : (0 : Int) ≤ (n : Int) + 1 + 1 := by omega
          have hs1 : wrap64 ((r : Int) + 1 - 1) = (r : Int) := by rw [e1]; exact wrap_small (Int.natCast_nonneg r) e3
          have hs2 : wrap64 ((n : Int) + 1 + 1) = ((n + 1 : Nat) : Int) + 1 := wrap_small e4 e2
          clear e1 e2 e3 e4
          have NWr := Aside0.mk (show N0 ≤ wr.heap.size from Nat.le_trans HN.out HK.out.1)
          clear hq hn hlt
          go_wp2_with (first | ((with_reducible refine gate_callee (f := 77) rfl ?_); refine goesL_ (some 31) rfl rfl Try.func77 (by kernel_rfl) rfl #[.slice Ar rows.length cr] rfl (by (try simp only [List.map_toArray, List.map_cons, List.map_nil]); first | done | rfl) ?_; (with_reducible refine (spec_l1Own.calls _ _ rows rows _ ?side1 ?side2 (own_some rows (by omega))).mono ?_); (case side1 => repeat (first | exact (Kd.R_reads' HR.out).2.2 | (with_reducible refine Kd.C_alloc ?_ _) | (with_reducible refine Kd.C_drewN ?_ _) | (with_reducible refine Kd.C_drew ?_))); (case side2 => exact (Kd.R_reads' HR.out).2.1); rintro e w2 ⟨vf, rfl, hf, hb⟩; refine ⟨_, rfl, ?_⟩; have HF := Aside0.mk hf; have HBF := Aside0.mk hb; clear hf hb) | ((with_reducible refine gate_builtin (b := .append) (xs := #[.tmp 31, .tmp 33]) rfl ?_); at_builtin; refine Kd.R_append (Kd.int .i64) (w0 := w2) wr.heap.size rfl (.tmp 31) (.tmp 33) 22 3 (.int .i64 0) 8 rfl Try.underlying22 info3 rfl (by decide) (by omega) vf rows ((n : Int) + 1) [.int .i64 ((n : Int) + 1)] (fun _ => True) (fun _ => False) rfl rfl ?aP (fun _ hk => hk.elim) (fun _ _ => trivial) HF.out (BWW HBF.out.size) HBF.out.size ?aL ?_; (case aP => exact rfl); (case aL => omega); intro v34 w3 ho3 hb3 hg3 hat3; obtain ⟨n0, n1, n2, n3⟩ := fresh_step HO.out HR.out HBF.out HF.out hg3 NWr.out; have n0_ := Aside0.mk n0; have n1_ := Aside0.mk n1; have n2_ := Aside0.mk (n2 HK.out); have n3_ := Aside0.mk (n3 (Nat.le_trans hbN NWr.out) HB.out); have HV := Aside0.mk (Kd.R_lower ho3 NWr.out); clear n0 n1 n2 n3 ho3 hb3 hg3 hat3 HO HR HK HB HF HBF; have HO := n0_; have HR := n1_; have HK := n2_; have HB := n3_; clear n0_ n1_ n2_ n3_))
          (refine (ih (n + 1) (r : Int) ((n : Int) + 1) rfl rfl (rows ++ [(n : Int) + 1]) v34 _ v' w0 _ b0 hbN hb0B HB.out (Nat.le_trans HN.out HK.out.1) HO.out HV.out ?l1 ?l2 ?l3).mono ?_)
          (case l1 => simp; omega)
          (case l2 => have := HLT.out; omega)
          (case l3 => have := HL.out; have h2 := genUp_le r rows (show n + 1 ≤ most from HLT.out); rw [genUp_succ', List.length_append] at h2; rw [gen_succ, List.length_append] at this; have hh : (headRow rows).length = 0 := (by unfold headRow; simp [HROW.out]); simp only [List.length_append, List.length_cons, List.length_nil] at *; omega)
          rintro e w4 ⟨rfl, v5, ho5, hat5, hb5, hk5⟩
          have n0_ := Aside0.mk ho5
          have n1_ := Aside0.mk (R_Kp HR.out HO.out.typed (by decide) HO.out.box (by decide) hk5)
          have n2_ := Aside0.mk (HK.out.trans hk5 HT.out)
          have n3_ := Aside0.mk hb5
          have n4_ := Aside0.mk (hat_trans HT.out hat5 HK.out.1)
          clear ho5 hat5 hb5 hk5 HO HR HK HB HV HT
          have HO := n0_
          have HR := n1_
          have HK := n2_
          have HB := n3_
          have HT := n4_
          clear n0_ n1_ n2_ n3_ n4_
          go_wp2
          go_roundg (gk - 1)
          case measure => have := HQ.out; omega
          case rel => exact ⟨n + 1, v5, (by first | rfl | (simp; done) | (simp [*]; done)), ⟨HLT.out⟩, ⟨HQ.out.1⟩, ⟨by rw [genUp_succ', ← List.append_assoc]; exact HO.out⟩, ⟨HR.out⟩, ⟨HT.out⟩, ⟨HK.out⟩, ⟨HB.out⟩⟩
        · obtain rfl : n = most := by have := hn.out; omega
          have c2b : decide ((n : Int) + 1 ≤ (n : Int)) = false := decide_eq_false (by omega)
          go_wp2
          go_end0
          exact ⟨rfl, v', by rw [gen_succ, show headRow rows = [] by unfold headRow; simp [HROW.out], List.nil_append]; exact HO.out, HT.out, HB.out, HK.out⟩
end Go.Proofs.Ytfppdfphbphhhaa.P
