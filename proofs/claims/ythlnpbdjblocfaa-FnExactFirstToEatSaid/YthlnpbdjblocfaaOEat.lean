/- (impl.eater).of: what the call comes to. Conditions: a bar of sides 1 to 12. -/
import Derived.Test.YthlnpbdjblocfaaUEat
import Derived.Test.YthlnpbdjblocfaaPx29
import Derived.Deep.RegionHeld3
import Derived.Deep.DrawnRows
import Derived.BigRegion
import Derived.Lib.Hide
namespace Go.Proofs.Ythlnpbdjblocfaa.P
open Go.RowKit Go.Proofs.YthlnpbdjblocfaaW.PrintWords Go.Proofs.YthlnpbdjblocfaaW.PrintLast Go.Proofs.YthlnpbdjblocfaaW.PrintMore Go.Proofs.Ythlnpbdjblocfaa.Pure Go.Proofs.Ythlnpbdjblocfaa.Mem
set_option linter.unusedVariables false
set_option linter.unusedSimpArgs false
section
variable (M : Nat) (w0 : World)
def eatG (ok : Nat → Prop) (W : World) (q : Br) (v : Value) : Prop := OkB q → Kd.R (Kd.int .i64) 3 W w0.heap.size ok v (eat q)
/-- The memory, and what is left alone. -/
structure EatEnv (ok : Nat → Prop) (W : World) : Prop where
  below : Below w0.heap.size w0 W
  hM : w0.heap.size ≤ M
  mem : Memo Try.prog 26 M ksB keyB (eatG w0 ok W) W
variable {M w0}
variable {ok ok' : Nat → Prop} {W W' : World}
theorem en_step (h : EatEnv M w0 ok W) (hb : Below w0.heap.size w0 W') {row : Option Nat} (hk : W.grownBy W' row) (hr : some M ≠ row) (hrow : ∀ k, ok k → some k ≠ row) : EatEnv M w0 ok W' :=
  ⟨hb, h.hM, (h.mem.kept hk hr).mono (fun q v hv i => Kd.R_grown (hv i) hk hrow)⟩
theorem en_mono (h : EatEnv M w0 ok W) (hh : ∀ k, ok k → ok' k) : EatEnv M w0 ok' W := ⟨h.below, h.hM, h.mem.mono (fun q v hv i => Kd.R_mono (hv i) hh)⟩
theorem en_bound (h : EatEnv M w0 ok W) : EatEnv M w0 (fun k => ok k ∧ k < W.heap.size ∧ ∃ cells, W.heap[k]? = some (.cells cells 3 (0, 0))) W :=
  ⟨h.below, h.hM, h.mem.mono (fun q v hv i => Kd.R_mono (Kd.R_bound (hv i)) (fun k hk => ⟨hk.1, hk.2.2.1, by
    obtain ⟨q, hq, cells, hc⟩ := hk.2.2.2
    obtain rfl : q = 3 := by simpa [Kd.int, Kd.scalar] using hq
    exact ⟨cells, hc⟩⟩))⟩
theorem en_below (h : EatEnv M w0 ok W) (hb : Below W.heap.size W W') : EatEnv M w0 ok W' :=
  en_step h (h.below.trans (hb.mono (below_size h.below))) (grown_below hb none) (by simp) (by simp)
/-- A row that is ours is written. -/
theorem en_row (h : EatEnv M w0 ok W) {g : Nat} (hk : W.grownBy W' (some g)) (hg : g ≠ M) (hok : ∀ k, ok k → k ≠ g) (hge : w0.heap.size ≤ g) : EatEnv M w0 ok W' :=
  en_step h (pw_below_grown h.below (some g) (below_size h.below) hk (fun k e => by cases e; exact hge)) hk (fun e => hg (Option.some.inj e).symm) (fun k ho e => hok k ho (Option.some.inj e))
/-- A box is written. -/
theorem en_set (h : EatEnv M w0 ok W) {g : Nat} {cs : Array Value} {ty : TypeId} (hb : W.heap[g]? = some (.cells cs ty (0, 0))) (hty : (3 : Nat) ≠ ty) (hge : w0.heap.size ≤ g) (i : Nat) (u : Value) : EatEnv M w0 ok (W.setCell ⟨g, i, none⟩ u) := by
  have h2 := en_bound h
  refine en_mono (en_row (g := g) h2 ?_ (h.mem.ne hb) (fun k hk e => ?_) hge) (fun k hk => hk.1)
  · refine ⟨rfl, rfl, rfl, by simp [World.setCell], fun j hj hn => Below.heap_setCell W ⟨g, i, none⟩ u j (fun e => hn (by rw [e]))⟩
  · subst e
    obtain ⟨cells, hc⟩ := hk.2.2
    rw [hb] at hc
    cases hc
    exact hty rfl
theorem zero35 (w : World) : (zeroValue 35).run Try.prog w = .ok (.slice none 0 0) w := by kernel_rfl
theorem eat_form {q : Br} (i : OkB q) {v : Value} {base : Nat} (h : Kd.R (Kd.int .i64) 3 W base ok v (eat q)) : ∃ g cap, v = .slice (some ⟨g, 0, none⟩) (arB q + 1) cap := by
  have h1 : 0 < (eat q).length := by rw [eat_len i]; omega
  obtain ⟨g, cap, he, _⟩ := Kd.R_form h h1
  rw [eat_len i] at he
  exact ⟨g, cap, he⟩
theorem R_self {base g n c : Nat} {xs : List Int} (h : Kd.R (Kd.int .i64) 3 W base ok (.slice (some ⟨g, 0, none⟩) n c) xs) : Kd.R (Kd.int .i64) 3 W base (fun k => k = g) (.slice (some ⟨g, 0, none⟩) n c) xs :=
  ⟨fun k hk => by simpa [Value.ownBlock] using hk.symm, h.2.imp_ (fun _ _ hp => hp)⟩
theorem grown_new {a b c : World} {g : Nat} (h : a.grownBy b (some M)) (k : b.grownBy c (some g)) (hg : a.heap.size ≤ g) : a.grownBy c (some M) :=
  ⟨k.os.trans h.os, k.tape.trans h.tape, k.output.trans h.output, Nat.le_trans h.size k.size, fun i hi hn => (k.block i (Nat.lt_of_lt_of_le hi h.size) (fun e => by have := Option.some.inj e; omega)).trans (h.block i hi hn)⟩
theorem grown_kept2 {a b c : World} {g : Nat} (h : a.grownBy b (some M)) (hq : Kept b c (fun k => k = M ∨ k = g)) (hg : a.heap.size ≤ g) (b1 : Below w0.heap.size w0 b) (b2 : Below w0.heap.size w0 c) : a.grownBy c (some M) :=
  ⟨(b2.os.trans b1.os.symm).trans h.os, (b2.tape.trans b1.tape.symm).trans h.tape, (b2.output.trans b1.output.symm).trans h.output, Nat.le_trans h.size hq.1, fun i hi hn => (hq.2 i (Nat.lt_of_lt_of_le hi h.size) (fun e => e.elim (fun e => hn (by rw [e])) (fun e => by omega))).trans (h.block i hi hn)⟩
theorem cell_rd {base g n c : Nat} {xs : List Int} (h : Kd.R (Kd.int .i64) 3 W base ok (.slice (some ⟨g, 0, none⟩) n c) xs) (i : Nat) (hi : i < n) : W.cell? ⟨g, i, none⟩ = some (.int .i64 (rd xs (i : Int))) ∧ W.frozen? ⟨g, i, none⟩ = false := by
  have := Kd.R_celln 0 h (i : Int) (by omega) (by omega)
  rw [Int.toNat_natCast] at this
  exact this
theorem put_rd {base g n c : Nat} {xs : List Int} (h : Kd.R (Kd.int .i64) 3 W base ok (.slice (some ⟨g, 0, none⟩) n c) xs) (i : Nat) (x : Int) : Kd.R (Kd.int .i64) 3 (W.setCell ⟨g, i, none⟩ (.int .i64 x)) base ok (.slice (some ⟨g, 0, none⟩) n c) (xs.set i x) ∧ W.grownBy (W.setCell ⟨g, i, none⟩ (.int .i64 x)) (some g) := by
  have := Kd.R_putg h (i : Int) x
  rw [Int.toNat_natCast] at this
  exact this
theorem box_ne {g g' : Nat} {cs cs' : Array Value} {t t' : TypeId} (h : W.heap[g]? = some (.cells cs t (0, 0))) (h' : W.heap[g']? = some (.cells cs' t' (0, 0))) (ht : t ≠ t') : g ≠ g' := by
  rintro rfl
  rw [h] at h'
  cases h'
  exact ht rfl
theorem line_some (a b : Nat) (v : Bool) (p : Nat) : impl_Bar_line.f (a : Int) (b : Int) v = some ((lnB (a, b) (v, p) : Nat) : Int) := by
  unfold impl_Bar_line.f lnB
  cases v <;> rfl
theorem grown_kept {S : Nat → Prop} {w5 : World} (hg : W.grownBy W' (some M)) (h : Kept w5 W S) (hS : S M) : Kept w5 W' S := Kept.of_grown hg h (fun k e => by cases e; exact .inl hS)
end
section
variable {M : Nat} {w0 : World}
set_option maxHeartbeats 16000000 in
set_option maxRecDepth 100000 in
theorem eat_any : ∀ (s a b : Nat), OkB (a, b) → a + b ≤ s → ∀ (ok : Nat → Prop) (W : World), (∀ k, W.heap.size ≤ k → ok k) → EatEnv M w0 ok W →
    Calls Try.prog 39 #[.map (some M), .agg #[.int .i64 (a : Int), .int .i64 (b : Int)]] W fun e W' => ∃ g cap, e = .returned (.slice (some ⟨g, 0, none⟩) (arB (a, b) + 1) cap) ∧ W.grownBy W' (some M) ∧ EatEnv M w0 ok W' ∧ Kd.R (Kd.int .i64) 3 W' w0.heap.size ok (.slice (some ⟨g, 0, none⟩) (arB (a, b) + 1) cap) (eat (a, b)) := by
  intro s
  induction s with
  | zero => intro a b i hs; exact absurd i.1 (by show ¬ 1 ≤ a; omega)
  | succ s ih =>
    intro a b i hs ok W hfr HE0
    have hlx : a ≤ 12 ∧ b ≤ 12 ∧ 1 ≤ a ∧ 1 ≤ b := by simp only [OkB] at i; omega
    have HFR := Aside0.mk hfr
    have HM := Aside0.mk HE0
    have HG := Aside0.mk (World.grownBy.refl W (some M))
    obtain ⟨kc, hkc⟩ := cuts_ev a b (by omega) (by omega) (by omega) (by omega)
    have HCU := Aside0.mk (hkc kc (Nat.le_refl _))
    clear hkc
    have HSQ := Aside0.mk (squares_nat (a := a) (b := b) (by omega) (by omega))
    have FE := Aside0.mk (eat_eq i)
    have HI := Aside0.mk i
    have har := i.area
    obtain ⟨ab, hab⟩ : ∃ ab, arB (a, b) = ab := ⟨_, rfl⟩
    have HAB := Aside0.mk hab
    rw [show a * b = ab from hab] at HSQ
    rw [hab] at har ⊢
    obtain ⟨la, hla⟩ : ∃ la, ab + 1 = la := ⟨_, rfl⟩
    have HLA := Aside0.mk hla
    have hw1 : wrap64 ((ab : Int) + 1) = (la : Int) := by rw [w64 (by omega) (by omega)]; omega
    have hw1W : IntKind.i64.wrap ((ab : Int) + 1) = (la : Int) := by rw [i64_w]; exact hw1
    have HW1 := Aside0.mk hw1
    have HW1W := Aside0.mk hw1W
    have HMLT := Aside0.mk HE0.mem.lt
    have HSW := Aside0.mk (below_size HE0.below)
    have HMW := Aside0.mk HE0.hM
    clear HE0 i hfr hab hw1 hw1W
    obtain ⟨cs, hcs⟩ : ∃ cs, cuts a b = cs := ⟨_, rfl⟩
    rw [show cuts (a, b).1 (a, b).2 = cs from hcs] at FE
    rw [hcs] at HCU
    have HCS := Aside0.mk hcs
    have HCL := Aside0.mk (show cs.length ≤ 100 by rw [← hcs, cuts_len]; omega)
    clear hcs
    have hw1 := HW1.out
    have hw1W := HW1W.out
    go_enter Try.func39, Try.ntmps39
    go_wp2_with (first | ((with_reducible refine gate_dst (N := 3) rfl ?_); refine box_event ?hg (N := 3) ?hd (cs := #[.int .i64 (a : Int), .int .i64 (b : Int)]) (t := 26) ?hr ?_; (case hd => rfl); (case hg => rfl); (case hr => first | (go_simp; done) | (go_simp; rfl)); intro g3 hg w1 hbox hb; have GE3 := Aside0.mk (show W.heap.size ≤ g3 by rw [hg]; exact Nat.le_trans HG.out.size (below_size (by repeat (first | (with_reducible first | exact (Below.refl W.heap.size W) | apply below_alloc | apply pw_below_drewN | apply below_drew1) | exact (Below.refl W.heap.size W)) : Below W.heap.size W _))); have n9_ := Aside0.mk hbox; have hbw : Below W.heap.size W w1 := below_step (by repeat (first | (with_reducible first | exact (Below.refl W.heap.size W) | apply below_alloc | apply pw_below_drewN | apply below_drew1) | exact (Below.refl W.heap.size W)) : Below W.heap.size W _) hb; have n0_ := Aside0.mk (grown_trans HG.out (grown_below hbw (some M))); have n1_ := Aside0.mk (en_below HM.out hbw); clear HG HM; have HG := n0_; have HM := n1_; clear n0_ n1_; clear hb hbw; have BK3 := n9_; clear n9_ hbox hg; have h3_0_w1 : w1.cell? ⟨g3, 0, none⟩ = some (.int .i64 (a : Int)) := (blk_cell BK3.out 0).trans rfl; have f3_0_w1 : w1.frozen? ⟨g3, 0, none⟩ = false := blk_frozen BK3.out 0; have h3_1_w1 : w1.cell? ⟨g3, 1, none⟩ = some (.int .i64 (b : Int)) := (blk_cell BK3.out 1).trans rfl; have f3_1_w1 : w1.frozen? ⟨g3, 1, none⟩ = false := blk_frozen BK3.out 1) | ((at_lookup; refine wp_look rfl _ _ 54 rfl 35 law26 Try.underlying54 (zero35 _) rfl HM.out.mem (a, b) _ rfl (keyB_some _ HI.out) ?_ ?_); (intro v hv; obtain ⟨g_, cap_, rfl⟩ := eat_form HI.out (hv HI.out); have HV := Aside0.mk (hv HI.out); clear hv)) | ((go_at_call 38; refine (impl_Bar_squares.calls _ _ _ _ HSQ.out).mono ?_; rintro e w2 ⟨rfl, hb⟩; have hbw : Below w1.heap.size w1 w2 := below_step (by repeat (first | (with_reducible first | exact (Below.refl w1.heap.size w1) | apply below_alloc | apply pw_below_drewN | apply below_drew1) | exact (Below.refl w1.heap.size w1)) : Below w1.heap.size w1 _) hb; have n0_ := Aside0.mk (grown_trans HG.out (grown_below hbw (some M))); have n1_ := Aside0.mk (en_below HM.out hbw); have n2_ := Aside0.mk (blk_below BK3.out hbw); clear HG HM BK3; have HG := n0_; have HM := n1_; have BK3 := n2_; clear n0_ n1_ n2_; clear hb hbw; have h3_0_w2 : w2.cell? ⟨g3, 0, none⟩ = some (.int .i64 (a : Int)) := (blk_cell BK3.out 0).trans rfl; have f3_0_w2 : w2.frozen? ⟨g3, 0, none⟩ = false := blk_frozen BK3.out 0; have h3_1_w2 : w2.cell? ⟨g3, 1, none⟩ = some (.int .i64 (b : Int)) := (blk_cell BK3.out 1).trans rfl; have f3_1_w2 : w2.frozen? ⟨g3, 1, none⟩ = false := blk_frozen BK3.out 1)) | ((with_reducible refine gate_dst (N := 35) rfl ?_); refine Kd.R_make (Kd.int .i64) (w0 := w2) w2.heap.size 3 rfl (N := 35) rfl 35 _ _ rfl (la : Int) rfl rfl Try.underlying35 (.int .i64 0) 8 info3 rfl (by decide) (by omega) 0 (ok := fun _ => True) (okp := fun _ => True) rfl (fun _ hk => hk) trivial (by omega) (by omega) (Below.refl _ _) (Nat.le_refl _) ?_; intro v8 w4 ho8 hb hg_ hnew_; clear hg_ hnew_; obtain ⟨g8, c8, rfl, hg8, hl8, cl8, hgc8⟩ := Kd.R_form ho8 (by rw [List.length_replicate]; omega); have G8W := Aside0.mk hg8; have GG8 := Aside0.mk (Nat.le_trans HG.out.size hg8); have BK8T := Aside0.mk (show ∃ cells, w4.heap[g8]? = some (.cells cells 3 (0, 0)) from ⟨cl8, hgc8⟩); have HO8 := Aside0.mk (R_self (Kd.R_lower ho8 (below_size HM.out.below))); clear ho8 hg8 hl8 hgc8; rw [List.length_replicate, Int.toNat_natCast] at HO8 ⊢; have HM2 := Aside0.mk (en_mono (en_below (en_bound HM.out) hb) (ok' := fun k => ok k ∧ k ≠ g8) (fun k hk => ⟨hk.1, fun e => by have := hk.2.1; have := G8W.out; omega⟩)); have HF8 := Aside0.mk (HFR.out g8 (Nat.le_trans HG.out.size G8W.out)); clear HM; have HM := HM2; clear HM2; have n0_ := Aside0.mk (grown_trans HG.out (grown_below hb (some M))); have n1_ := Aside0.mk (blk_below BK3.out hb); clear HG BK3; have HG := n0_; have BK3 := n1_; clear n0_ n1_; clear hb; have h3_0_w4 : w4.cell? ⟨g3, 0, none⟩ = some (.int .i64 (a : Int)) := (blk_cell BK3.out 0).trans rfl; have f3_0_w4 : w4.frozen? ⟨g3, 0, none⟩ = false := blk_frozen BK3.out 0; have h3_1_w4 : w4.cell? ⟨g3, 1, none⟩ = some (.int .i64 (b : Int)) := (blk_cell BK3.out 1).trans rfl; have f3_1_w4 : w4.frozen? ⟨g3, 1, none⟩ = false := blk_frozen BK3.out 1))
    · rw [HAB.out, HLA.out] at HV ⊢
      go_ret
      exact ⟨_, _, rfl, HG.out, HM.out, HV.out⟩
    · have NE8M := Aside0.mk (show g8 ≠ M by have := HMLT.out; have := HG.out.size; have := G8W.out; have h_ := GG8.out; omega)
      have N38 := Aside0.mk (show g3 ≠ g8 by obtain ⟨cl, hcl⟩ := BK8T.out; exact box_ne BK3.out hcl (by decide))
      have GW8 := Aside0.mk (show W.heap.size ≤ g8 from GG8.out)
      have GZ8 := Aside0.mk (show w0.heap.size ≤ g8 from Nat.le_trans HSW.out GG8.out)
      clear hw1 hw1W
      try clear h3_0_w1 h3_1_w1 f3_0_w1 f3_1_w1 h3_0_w2 h3_1_w2 f3_0_w2 f3_1_w2 h3_0_w4 h3_1_w4 f3_0_w4 f3_1_w4
      go_loopg [9] (ab + 1) (fun kq v9 w' => ∃ m : Nat, v9 = .int .i64 (m : Int) ∧ Aside0 (1 ≤ m ∧ m ≤ ab) ∧ Aside0 (ab - m ≤ kq) ∧ Aside0 (w4.grownBy w' (some g8)) ∧ Aside0 (Kd.R (Kd.int .i64) 3 w' w0.heap.size (fun k => k = g8) (.slice (some ⟨g8, 0, none⟩) la c8) (iniU (List.replicate la 0) (m - 1))))
      case atStart => exact ⟨1, rfl, ⟨by omega⟩, ⟨by omega⟩, ⟨World.grownBy.refl _ _⟩, HO8⟩
      case round =>
        have HO84 := HO8
        clear HO8
        obtain ⟨m, rfl, hm, hq, HQ1, HO8⟩ := hrel
        by_cases hlt : m < ab
        · have c0 : decide ((m : Int) < (ab : Int)) = true := decide_eq_true (by omega)
          have c00 : decide (m < ab) = true := decide_eq_true hlt
          have p0 : (0 : Int) ≤ (m : Int) := by omega
          have q0 : (m : Int) < (la : Int) := by omega
          have q00 : m < la := by omega
          have hcell := cell_rd HO8.out m q00
          obtain ⟨hx, hf⟩ := hcell
          have HP := Aside0.mk (put_rd HO8.out m (-1))
          have hin : (iniU (List.replicate la 0) (m - 1)).set m (-1) = iniU (List.replicate la 0) (m + 1 - 1) := by
            obtain ⟨m', rfl⟩ : ∃ m', m = m' + 1 := ⟨m - 1, by have := hm.out; omega⟩
            rfl
          rw [hin] at HP
          clear hin
          have HQQ := Aside0.mk (show ab - (m + 1) ≤ gk - 1 ∧ 0 < gk by have := hq.out; omega)
          have HLT := Aside0.mk hlt
          have e2 : (m : Int) + 1 ≤ 1000 := by omega
          go_wp2_with (first | ((with_reducible refine gate_store (t := 3) (p := 43) rfl ?_); refine store_event (t := 3) (p := 43) (v := ?vo_w31) (w1 := (wr.setCell ⟨g8, m, none⟩ (.int .i64 (-1)))) ?hg ?ho ?hn ?hr ?_; (case ho => rfl); (case hg => rfl); (case hn => rfl); (case hr => first | (go_simp; done) | (go_simp; rfl)); intro w31 hw; have n0_ := Aside0.mk (show Kd.R (Kd.int .i64) 3 w31 w0.heap.size (fun k => k = g8) (.slice (some ⟨g8, 0, none⟩) la c8) (iniU (List.replicate la 0) (m + 1 - 1)) from (by rw [hw]; exact HP.out.1)); have n1_ := Aside0.mk (grown_trans HQ1.out (show wr.grownBy w31 (some g8) from (by rw [hw]; exact HP.out.2))); clear HO8 HQ1 HP hw; have HO8 := n0_; have HQ1 := n1_; clear n0_ n1_))
          go_roundg (gk - 1)
          case measure => have := HQQ.out; omega
          case rel => exact ⟨m + 1, by go_num, ⟨by have := HLT.out; omega⟩, ⟨HQQ.out.1⟩, HQ1, HO8⟩
        · have c0 : decide ((m : Int) < (ab : Int)) = false := decide_eq_false (by omega)
          have c00 : decide (m < ab) = false := decide_eq_false hlt
          obtain rfl : m = ab := by have := hm.out; omega
          have hie : iniU (List.replicate la 0) (m - 1) = iniE (a, b) := by unfold iniE; rw [HAB.out, HLA.out]
          rw [hie] at HO8
          have n0_ := Aside0.mk (en_row HM.out HQ1.out NE8M.out (fun k hk => hk.2) GZ8.out)
          have n1_ := Aside0.mk (grown_new HG.out HQ1.out GW8.out)
          have n2_ := Aside0.mk (blk_grown (g := g3) (o := .cells #[.int .i64 (a : Int), .int .i64 (b : Int)] 26 (0, 0)) BK3.out HQ1.out (fun e => N38.out (Option.some.inj e)))
          have n3_ := Aside0.mk (show ∃ cells, wr.heap[g8]? = some (.cells cells 3 (0, 0)) by obtain ⟨_, _, he, _, _, cells, hc⟩ := Kd.R_form HO8.out (by rw [iniE_len]; omega); injection he with h1 h2 h3; injection h1 with h1; injection h1 with h1 h4 h5; subst h1; exact ⟨cells, hc⟩)
          clear HM HG BK3 BK8T HO84 hie hm hq hlt
          have HM := n0_; have HG := n1_; have BK3 := n2_; have BK8T := n3_
          clear n0_ n1_ n2_ n3_ HQ1
          have h3_0_wr : wr.cell? ⟨g3, 0, none⟩ = some (.int .i64 (a : Int)) := (blk_cell BK3.out 0).trans rfl
          have f3_0_wr : wr.frozen? ⟨g3, 0, none⟩ = false := blk_frozen BK3.out 0
          have h3_1_wr : wr.cell? ⟨g3, 1, none⟩ = some (.int .i64 (b : Int)) := (blk_cell BK3.out 1).trans rfl
          have f3_1_wr : wr.frozen? ⟨g3, 1, none⟩ = false := blk_frozen BK3.out 1
          go_wp2_with (first | ((go_at_call 42; refine (impl_Bar_cuts.calls kc _ _ _ _ HCU.out).mono ?_; rintro e w5 ⟨vr, rfl, hro, hb⟩; obtain ⟨Ar, cr, er⟩ := Kd.R_slice hro; rw [List.length_map] at er; subst er; have HO := Aside0.mk (Kd.R_lower hro (Nat.zero_le _)); have BK8Q := Aside0.mk (BK8T.out.imp fun cells hc => blk_below hc hb); clear BK8T; have hbw : Below wr.heap.size wr w5 := below_step (by repeat (first | (with_reducible first | exact (Below.refl wr.heap.size wr) | apply below_alloc | apply pw_below_drewN | apply below_drew1) | exact (Below.refl wr.heap.size wr)) : Below wr.heap.size wr _) hb; have n0_ := Aside0.mk (grown_trans HG.out (grown_below hbw (some M))); have n1_ := Aside0.mk (en_below HM.out hbw); have n2_ := Aside0.mk (Kd.R_below HO8.out hbw); have n3_ := Aside0.mk (blk_below BK3.out hbw); clear HG HM HO8 BK3; have HG := n0_; have HM := n1_; have HO8 := n2_; have BK3 := n3_; clear n0_ n1_ n2_ n3_; clear hb hbw; have h3_0_w5 : w5.cell? ⟨g3, 0, none⟩ = some (.int .i64 (a : Int)) := (blk_cell BK3.out 0).trans rfl; have f3_0_w5 : w5.frozen? ⟨g3, 0, none⟩ = false := blk_frozen BK3.out 0; have h3_1_w5 : w5.cell? ⟨g3, 1, none⟩ = some (.int .i64 (b : Int)) := (blk_cell BK3.out 1).trans rfl; have f3_1_w5 : w5.frozen? ⟨g3, 1, none⟩ = false := blk_frozen BK3.out 1; clear hro)))
          have HSZ := Aside0.mk (show w0.heap.size ≤ w5.heap.size from below_size HM.out.below)
          have G8L := Aside0.mk (show g8 < w5.heap.size by obtain ⟨cl, hcl⟩ := BK8Q.out; exact blk_lt hcl)
          have HFR8 := Aside0.mk (show ∀ k, w5.heap.size ≤ k → ok k ∧ k ≠ g8 from fun k hk => ⟨HFR.out k (Nat.le_trans HG.out.size hk), fun e => by have := G8L.out; omega⟩)
          have HM5 := HM; have HG5 := HG; have HO5 := HO; have BK35 := BK3
          have N3M := Aside0.mk (HM.out.mem.ne BK3.out)
          clear HG HO BK3 c0 c00 HCU HSQ
          try clear h3_0_wr h3_1_wr f3_0_wr f3_1_wr h3_0_w5 h3_1_w5 f3_0_w5 f3_1_w5
          go_loopg [47] (cs.length + 1) (fun kq v47 w' => ∃ n : Nat, v47 = .int .i64 (n : Int) ∧ Aside0 (n ≤ cs.length) ∧ Aside0 (cs.length - n ≤ kq) ∧ Aside0 (Kept w5 w' (fun k => k = M ∨ k = g8)) ∧ Aside0 (EatEnv M w0 (fun k => ok k ∧ k ≠ g8) w') ∧ Aside0 (Kd.R (Kd.int .i64) 3 w' w0.heap.size (fun k => k = g8) (.slice (some ⟨g8, 0, none⟩) la c8) (eatUp (a, b) cs n)))
          case atStart => exact ⟨0, rfl, ⟨Nat.zero_le _⟩, ⟨by omega⟩, ⟨Kept.refl _ _⟩, HM5, HO8⟩
          case round =>
            clear HM HO8
            obtain ⟨n, rfl, hn, hq, HQ, HM, HO8⟩ := hrel
            have BK3 := Aside0.mk (blk_kept BK35.out HQ.out (fun e => e.elim N3M.out N38.out))
            have h3_0_wr : wr.cell? ⟨g3, 0, none⟩ = some (.int .i64 (a : Int)) := (blk_cell BK3.out 0).trans rfl
            have f3_0_wr : wr.frozen? ⟨g3, 0, none⟩ = false := blk_frozen BK3.out 0
            have h3_1_wr : wr.cell? ⟨g3, 1, none⟩ = some (.int .i64 (b : Int)) := (blk_cell BK3.out 1).trans rfl
            have f3_1_wr : wr.frozen? ⟨g3, 1, none⟩ = false := blk_frozen BK3.out 1
            by_cases hlt : n < cs.length
            · have c0 : decide ((n : Int) < (cs.length : Int)) = true := decide_eq_true (by omega)
              have c00 : decide (n < cs.length) = true := decide_eq_true hlt
              have p0 : (0 : Int) ≤ (n : Int) := by omega
              have q0 : (n : Int) < (cs.length : Int) := by omega
              have q00 : n < cs.length := hlt
              have hrowc := Kd.R_kept (Kd.R_bound HO5.out) HQ.out (fun k hk e => by
                obtain ⟨_, _, _, q, hq2, cells, hc⟩ := hk
                rcases e with e | e
                · exact HM5.out.mem.ne hc e
                · obtain ⟨cl, hcl⟩ := BK8Q.out
                  obtain rfl := List.mem_singleton.1 (show q ∈ [60] from hq2)
                  exact box_ne hc hcl (by decide) e)
              obtain ⟨ad, ead, hx0, hx1⟩ := at_T60 (Kd.R_reads' hrowc).2.2 (n : Int) (by omega) (by rw [List.length_map]; omega)
              subst ead
              rw [rd_cuts _ n hlt] at hx0 hx1
              rw [Int.toNat_natCast] at hx0 hx1
              have HNX := eatUp_succ (a, b) cs n hlt
              have hmem : cs[n] ∈ cs := List.getElem_mem hlt
              obtain ⟨⟨v, p⟩, hvp⟩ : ∃ c, cs[n] = c := ⟨_, rfl⟩
              rw [hvp] at hx0 hx1 HNX hmem
              replace hx0 : wr.cell? (ad.add (n * 2)) = some (.bool v) := hx0
              replace hx1 : wr.cell? ⟨(ad.add (n * 2)).block, (ad.add (n * 2)).off + 1, none⟩ = some (.int .i64 (p : Int)) := hx1
              rw [← HCS.out] at hmem
              have BR := broken_bar HI.out hmem
              have I1 := HI.out.one hmem
              have I2 := HI.out.two hmem
              have SPL := ar_split (q := (a, b)) hmem
              have SQB := sqB_bd HI.out (v, p)
              have HLN := Aside0.mk (line_some a b v p)
              unfold stepE at HNX
              have hsqd : sqB (a, b) (v, p) = ((lnB (a, b) (v, p) * lnB (a, b) (v, p) : Nat) : Int) := rfl
              obtain ⟨ln, hln⟩ : ∃ z, lnB (a, b) (v, p) = z := ⟨_, rfl⟩
              rw [hln] at HLN hsqd
              obtain ⟨sq, hsq⟩ : ∃ z, sqB (a, b) (v, p) = z := ⟨_, rfl⟩
              rw [hsq] at HNX SQB hsqd
              obtain ⟨⟨a1, b1⟩, hq1⟩ : ∃ q, oneB (a, b) (v, p) = q := ⟨_, rfl⟩
              obtain ⟨⟨a2, b2⟩, hq2⟩ : ∃ q, twoB (a, b) (v, p) = q := ⟨_, rfl⟩
              rw [hq1] at BR I1 HNX SPL
              rw [hq2] at BR I2 HNX SPL
              have BD1 := eat_bd I1.1
              have BD2 := eat_bd I2.1
              have AR1 := I1.1.area
              have AR2 := I2.1.area
              have LN1 := eat_len I1.1
              have LN2 := eat_len I2.1
              obtain ⟨f1, hf1⟩ : ∃ z, eat (a1, b1) = z := ⟨_, rfl⟩
              obtain ⟨f2, hf2⟩ : ∃ z, eat (a2, b2) = z := ⟨_, rfl⟩
              obtain ⟨lf, hlf⟩ : ∃ z, arB (a1, b1) + 1 = z := ⟨_, rfl⟩
              obtain ⟨ls, hls⟩ : ∃ z, arB (a2, b2) + 1 = z := ⟨_, rfl⟩
              rw [hf1] at HNX BD1 LN1
              rw [hf2] at HNX BD2 LN2
              rw [hlf] at LN1
              rw [hls] at LN2
              rw [LN1] at HNX
              have HF1 := Aside0.mk hf1
              have HF2 := Aside0.mk hf2
              have HLF := Aside0.mk hlf
              have HLS := Aside0.mk hls
              have B1 := Aside0.mk (show Bd 20592 f1 ∧ Bd 20592 f2 from ⟨fun x hx => ⟨(BD1 x hx).1, by have := (BD1 x hx).2; unfold topE at this; omega⟩, fun x hx => ⟨(BD2 x hx).1, by have := (BD2 x hx).2; unfold topE at this; omega⟩⟩)
              have HSP := Aside0.mk (show lf + ls = la + 1 ∧ 2 ≤ lf ∧ 2 ≤ ls ∧ lf ≤ 145 ∧ ls ≤ 145 by rw [HAB.out] at SPL; omega)
              have HML := Aside0.mk (show wrap64 ((ln : Int) * (ln : Int)) = sq by rw [hsqd, Int.natCast_mul, w64 (by rw [← Int.natCast_mul, ← hsqd]; omega) (by rw [← Int.natCast_mul, ← hsqd]; omega)])
              have HSQ := Aside0.mk SQB
              have LL := Aside0.mk (And.intro LN1 LN2)
              have HNXT := Aside0.mk HNX
              have S1 := Aside0.mk (show a1 + b1 ≤ s by have := I1.2; simp only [szB] at this; omega)
              have S2 := Aside0.mk (show a2 + b2 ≤ s by have := I2.2; simp only [szB] at this; omega)
              have J1 := Aside0.mk I1.1
              have J2 := Aside0.mk I2.1
              have HBR := Aside0.mk BR
              have HLT := Aside0.mk hlt
              have HQQ := Aside0.mk (show cs.length - (n + 1) ≤ gk - 1 ∧ 0 < gk by have := hq.out; omega)
              obtain ⟨xs, hxs⟩ : ∃ z, eatUp (a, b) cs n = z := ⟨_, rfl⟩
              rw [hxs] at HO8 HNXT
              clear HNX I1 I2 BR hq1 hq2 hmem hvp hlt hn hq AR1 AR2 SPL SQB hsqd hsq hln BD1 BD2 LN1 LN2 hf1 hf2 hlf hls hxs hs
              go_wp2_with (first | ((with_reducible refine gate_dst (N := 11) rfl ?_); refine box_event ?hg (N := 11) ?hd (cs := #[.bool false, .int .i64 0]) (t := 60) ?hr ?_; (case hd => rfl); (case hg => rfl); (case hr => first | (go_simp; done) | (go_simp; rfl)); intro g11 hg w6 hbox hb; have GE11 := Aside0.mk (show w5.heap.size ≤ g11 by rw [hg]; exact Nat.le_trans HQ.out.1 (below_size (by repeat (first | (with_reducible first | exact (Below.refl wr.heap.size wr) | apply below_alloc | apply pw_below_drewN | apply below_drew1) | exact (Below.refl wr.heap.size wr)) : Below wr.heap.size wr _))); have NO11 := Aside0.mk (show g8 ≠ g11 by have := G8L.out; have := GE11.out; omega); have NB3_11 := Aside0.mk (show g3 ≠ g11 by rw [hg]; exact Nat.ne_of_lt (Nat.lt_of_lt_of_le (blk_lt BK3.out) (below_size (by repeat (first | (with_reducible first | exact (Below.refl wr.heap.size wr) | apply below_alloc | apply pw_below_drewN | apply below_drew1) | exact (Below.refl wr.heap.size wr)) : Below wr.heap.size wr _)))); have n9_ := Aside0.mk hbox; have hbw : Below wr.heap.size wr w6 := below_step (by repeat (first | (with_reducible first | exact (Below.refl wr.heap.size wr) | apply below_alloc | apply pw_below_drewN | apply below_drew1) | exact (Below.refl wr.heap.size wr)) : Below wr.heap.size wr _) hb; have n0_ := Aside0.mk (Kept.below HQ.out hbw); have n1_ := Aside0.mk (en_below HM.out hbw); have n2_ := Aside0.mk (Kd.R_below HO8.out hbw); have n3_ := Aside0.mk (blk_below BK3.out hbw); clear HQ HM HO8 BK3; have HQ := n0_; have HM := n1_; have HO8 := n2_; have BK3 := n3_; clear n0_ n1_ n2_ n3_; clear hb hbw; have h3_0_w6 : w6.cell? ⟨g3, 0, none⟩ = some (.int .i64 (a : Int)) := (blk_cell BK3.out 0).trans rfl; have f3_0_w6 : w6.frozen? ⟨g3, 0, none⟩ = false := blk_frozen BK3.out 0; have h3_1_w6 : w6.cell? ⟨g3, 1, none⟩ = some (.int .i64 (b : Int)) := (blk_cell BK3.out 1).trans rfl; have f3_1_w6 : w6.frozen? ⟨g3, 1, none⟩ = false := blk_frozen BK3.out 1; have BK11 := n9_; clear n9_ hbox hg; have h11_0_w6 : w6.cell? ⟨g11, 0, none⟩ = some (.bool false) := (blk_cell BK11.out 0).trans rfl; have f11_0_w6 : w6.frozen? ⟨g11, 0, none⟩ = false := blk_frozen BK11.out 0; have h11_1_w6 : w6.cell? ⟨g11, 1, none⟩ = some (.int .i64 0) := (blk_cell BK11.out 1).trans rfl; have f11_1_w6 : w6.frozen? ⟨g11, 1, none⟩ = false := blk_frozen BK11.out 1) | ((with_reducible refine gate_store (t := 60) (p := 11) rfl ?_); refine store_event (t := 60) (p := 11) (v := ?vo_w7) (w1 := ((w6.setCell ⟨g11, 0, none⟩ (.bool v)).setCell ⟨g11, 1, none⟩ (.int .i64 (p : Int)))) ?hg ?ho ?hn ?hr ?_; (case ho => rfl); (case hg => rfl); (case hn => rfl); (case hr => first | (go_simp; done) | (go_simp; rfl)); intro w7 hw; have n0_ := Aside0.mk (show Kept w5 w7 (fun k => k = M ∨ k = g8) from (by rw [hw]; exact (Kept.setCell (Kept.setCell HQ.out (p := ⟨g11, 0, none⟩) (.inr GE11.out) _) (p := ⟨g11, 1, none⟩) (.inr GE11.out) _))); have n1_ := Aside0.mk (show EatEnv M w0 (fun k => ok k ∧ k ≠ g8) w7 from (by rw [hw]; exact (en_set (en_set HM.out BK11.out (by decide) (Nat.le_trans HSZ.out GE11.out) _ _) (blk_put (cs' := #[.bool v, .int .i64 0]) BK11.out 0 _ rfl) (by decide) (Nat.le_trans HSZ.out GE11.out) _ _))); have n2_ := Aside0.mk (show Kd.R (Kd.int .i64) 3 w7 w0.heap.size (fun k => k = g8) (.slice (some ⟨g8, 0, none⟩) la c8) xs from (by rw [hw]; exact (Kd.R_far (Kd.R_far HO8.out (p := ⟨g11, 0, none⟩) (fun k_ hk_ => by rw [hk_]; exact NO11.out) _) (p := ⟨g11, 1, none⟩) (fun k_ hk_ => by rw [hk_]; exact NO11.out) _))); have n3_ := Aside0.mk (show w7.heap[g11]? = some (.cells #[.bool v, .int .i64 (p : Int)] 60 (0, 0)) from (by rw [hw]; exact (blk_put (cs' := #[.bool v, .int .i64 (p : Int)]) (blk_put (cs' := #[.bool v, .int .i64 0]) BK11.out 0 _ rfl) 1 _ rfl))); have n4_ := Aside0.mk (show w7.heap[g3]? = some (.cells #[.int .i64 (a : Int), .int .i64 (b : Int)] 26 (0, 0)) from (by rw [hw]; exact (blk_far (blk_far BK3.out (p := ⟨g11, 0, none⟩) NB3_11.out _) (p := ⟨g11, 1, none⟩) NB3_11.out _))); clear HQ HM HO8 BK11 BK3; have HQ := n0_; have HM := n1_; have HO8 := n2_; have BK11 := n3_; have BK3 := n4_; clear n0_ n1_ n2_ n3_ n4_; clear hw; have h3_0_w7 : w7.cell? ⟨g3, 0, none⟩ = some (.int .i64 (a : Int)) := (blk_cell BK3.out 0).trans rfl; have f3_0_w7 : w7.frozen? ⟨g3, 0, none⟩ = false := blk_frozen BK3.out 0; have h3_1_w7 : w7.cell? ⟨g3, 1, none⟩ = some (.int .i64 (b : Int)) := (blk_cell BK3.out 1).trans rfl; have f3_1_w7 : w7.frozen? ⟨g3, 1, none⟩ = false := blk_frozen BK3.out 1; have h11_0_w7 : w7.cell? ⟨g11, 0, none⟩ = some (.bool v) := (blk_cell BK11.out 0).trans rfl; have f11_0_w7 : w7.frozen? ⟨g11, 0, none⟩ = false := blk_frozen BK11.out 0; have h11_1_w7 : w7.cell? ⟨g11, 1, none⟩ = some (.int .i64 (p : Int)) := (blk_cell BK11.out 1).trans rfl; have f11_1_w7 : w7.frozen? ⟨g11, 1, none⟩ = false := blk_frozen BK11.out 1) | ((go_at_call 43; refine (impl_Bar_broken.calls _ _ _ _ _ _ _ _ _ _ HBR.out).mono ?_; rintro e w8 ⟨rfl, hb⟩; have hbw : Below w7.heap.size w7 w8 := below_step (by repeat (first | (with_reducible first | exact (Below.refl w7.heap.size w7) | apply below_alloc | apply pw_below_drewN | apply below_drew1) | exact (Below.refl w7.heap.size w7)) : Below w7.heap.size w7 _) hb; have n0_ := Aside0.mk (Kept.below HQ.out hbw); have n1_ := Aside0.mk (en_below HM.out hbw); have n2_ := Aside0.mk (Kd.R_below HO8.out hbw); have n3_ := Aside0.mk (blk_below BK3.out hbw); have n4_ := Aside0.mk (blk_below BK11.out hbw); clear HQ HM HO8 BK3 BK11; have HQ := n0_; have HM := n1_; have HO8 := n2_; have BK3 := n3_; have BK11 := n4_; clear n0_ n1_ n2_ n3_ n4_; clear hb hbw; have h3_0_w8 : w8.cell? ⟨g3, 0, none⟩ = some (.int .i64 (a : Int)) := (blk_cell BK3.out 0).trans rfl; have f3_0_w8 : w8.frozen? ⟨g3, 0, none⟩ = false := blk_frozen BK3.out 0; have h3_1_w8 : w8.cell? ⟨g3, 1, none⟩ = some (.int .i64 (b : Int)) := (blk_cell BK3.out 1).trans rfl; have f3_1_w8 : w8.frozen? ⟨g3, 1, none⟩ = false := blk_frozen BK3.out 1; have h11_0_w8 : w8.cell? ⟨g11, 0, none⟩ = some (.bool v) := (blk_cell BK11.out 0).trans rfl; have f11_0_w8 : w8.frozen? ⟨g11, 0, none⟩ = false := blk_frozen BK11.out 0; have h11_1_w8 : w8.cell? ⟨g11, 1, none⟩ = some (.int .i64 (p : Int)) := (blk_cell BK11.out 1).trans rfl; have f11_1_w8 : w8.frozen? ⟨g11, 1, none⟩ = false := blk_frozen BK11.out 1)) | ((with_reducible refine gate_dst (N := 12) rfl ?_); refine box_event ?hg (N := 12) ?hd (cs := #[.int .i64 0, .int .i64 0]) (t := 26) ?hr ?_; (case hd => rfl); (case hg => rfl); (case hr => first | (go_simp; done) | (go_simp; rfl)); intro g12 hg w9 hbox hb; have GE12 := Aside0.mk (show w5.heap.size ≤ g12 by rw [hg]; exact Nat.le_trans HQ.out.1 (below_size (by repeat (first | (with_reducible first | exact (Below.refl w8.heap.size w8) | apply below_alloc | apply pw_below_drewN | apply below_drew1) | exact (Below.refl w8.heap.size w8)) : Below w8.heap.size w8 _))); have NO12 := Aside0.mk (show g8 ≠ g12 by have := G8L.out; have := GE12.out; omega); have NB3_12 := Aside0.mk (show g3 ≠ g12 by rw [hg]; exact Nat.ne_of_lt (Nat.lt_of_lt_of_le (blk_lt BK3.out) (below_size (by repeat (first | (with_reducible first | exact (Below.refl w8.heap.size w8) | apply below_alloc | apply pw_below_drewN | apply below_drew1) | exact (Below.refl w8.heap.size w8)) : Below w8.heap.size w8 _)))); have NB11_12 := Aside0.mk (show g11 ≠ g12 by rw [hg]; exact Nat.ne_of_lt (Nat.lt_of_lt_of_le (blk_lt BK11.out) (below_size (by repeat (first | (with_reducible first | exact (Below.refl w8.heap.size w8) | apply below_alloc | apply pw_below_drewN | apply below_drew1) | exact (Below.refl w8.heap.size w8)) : Below w8.heap.size w8 _)))); have n9_ := Aside0.mk hbox; have hbw : Below w8.heap.size w8 w9 := below_step (by repeat (first | (with_reducible first | exact (Below.refl w8.heap.size w8) | apply below_alloc | apply pw_below_drewN | apply below_drew1) | exact (Below.refl w8.heap.size w8)) : Below w8.heap.size w8 _) hb; have n0_ := Aside0.mk (Kept.below HQ.out hbw); have n1_ := Aside0.mk (en_below HM.out hbw); have n2_ := Aside0.mk (Kd.R_below HO8.out hbw); have n3_ := Aside0.mk (blk_below BK3.out hbw); have n4_ := Aside0.mk (blk_below BK11.out hbw); clear HQ HM HO8 BK3 BK11; have HQ := n0_; have HM := n1_; have HO8 := n2_; have BK3 := n3_; have BK11 := n4_; clear n0_ n1_ n2_ n3_ n4_; clear hb hbw; have h3_0_w9 : w9.cell? ⟨g3, 0, none⟩ = some (.int .i64 (a : Int)) := (blk_cell BK3.out 0).trans rfl; have f3_0_w9 : w9.frozen? ⟨g3, 0, none⟩ = false := blk_frozen BK3.out 0; have h3_1_w9 : w9.cell? ⟨g3, 1, none⟩ = some (.int .i64 (b : Int)) := (blk_cell BK3.out 1).trans rfl; have f3_1_w9 : w9.frozen? ⟨g3, 1, none⟩ = false := blk_frozen BK3.out 1; have h11_0_w9 : w9.cell? ⟨g11, 0, none⟩ = some (.bool v) := (blk_cell BK11.out 0).trans rfl; have f11_0_w9 : w9.frozen? ⟨g11, 0, none⟩ = false := blk_frozen BK11.out 0; have h11_1_w9 : w9.cell? ⟨g11, 1, none⟩ = some (.int .i64 (p : Int)) := (blk_cell BK11.out 1).trans rfl; have f11_1_w9 : w9.frozen? ⟨g11, 1, none⟩ = false := blk_frozen BK11.out 1; have BK12 := n9_; clear n9_ hbox hg; have h12_0_w9 : w9.cell? ⟨g12, 0, none⟩ = some (.int .i64 0) := (blk_cell BK12.out 0).trans rfl; have f12_0_w9 : w9.frozen? ⟨g12, 0, none⟩ = false := blk_frozen BK12.out 0; have h12_1_w9 : w9.cell? ⟨g12, 1, none⟩ = some (.int .i64 0) := (blk_cell BK12.out 1).trans rfl; have f12_1_w9 : w9.frozen? ⟨g12, 1, none⟩ = false := blk_frozen BK12.out 1) | ((with_reducible refine gate_dst (N := 13) rfl ?_); refine box_event ?hg (N := 13) ?hd (cs := #[.int .i64 0, .int .i64 0]) (t := 26) ?hr ?_; (case hd => rfl); (case hg => rfl); (case hr => first | (go_simp; done) | (go_simp; rfl)); intro g13 hg w10 hbox hb; have GE13 := Aside0.mk (show w5.heap.size ≤ g13 by rw [hg]; exact Nat.le_trans HQ.out.1 (below_size (by repeat (first | (with_reducible first | exact (Below.refl w9.heap.size w9) | apply below_alloc | apply pw_below_drewN | apply below_drew1) | exact (Below.refl w9.heap.size w9)) : Below w9.heap.size w9 _))); have NO13 := Aside0.mk (show g8 ≠ g13 by have := G8L.out; have := GE13.out; omega); have NB3_13 := Aside0.mk (show g3 ≠ g13 by rw [hg]; exact Nat.ne_of_lt (Nat.lt_of_lt_of_le (blk_lt BK3.out) (below_size (by repeat (first | (with_reducible first | exact (Below.refl w9.heap.size w9) | apply below_alloc | apply pw_below_drewN | apply below_drew1) | exact (Below.refl w9.heap.size w9)) : Below w9.heap.size w9 _)))); have NB11_13 := Aside0.mk (show g11 ≠ g13 by rw [hg]; exact Nat.ne_of_lt (Nat.lt_of_lt_of_le (blk_lt BK11.out) (below_size (by repeat (first | (with_reducible first | exact (Below.refl w9.heap.size w9) | apply below_alloc | apply pw_below_drewN | apply below_drew1) | exact (Below.refl w9.heap.size w9)) : Below w9.heap.size w9 _)))); have NB12_13 := Aside0.mk (show g12 ≠ g13 by rw [hg]; exact Nat.ne_of_lt (Nat.lt_of_lt_of_le (blk_lt BK12.out) (below_size (by repeat (first | (with_reducible first | exact (Below.refl w9.heap.size w9) | apply below_alloc | apply pw_below_drewN | apply below_drew1) | exact (Below.refl w9.heap.size w9)) : Below w9.heap.size w9 _)))); have n9_ := Aside0.mk hbox; have hbw : Below w9.heap.size w9 w10 := below_step (by repeat (first | (with_reducible first | exact (Below.refl w9.heap.size w9) | apply below_alloc | apply pw_below_drewN | apply below_drew1) | exact (Below.refl w9.heap.size w9)) : Below w9.heap.size w9 _) hb; have n0_ := Aside0.mk (Kept.below HQ.out hbw); have n1_ := Aside0.mk (en_below HM.out hbw); have n2_ := Aside0.mk (Kd.R_below HO8.out hbw); have n3_ := Aside0.mk (blk_below BK3.out hbw); have n4_ := Aside0.mk (blk_below BK11.out hbw); have n5_ := Aside0.mk (blk_below BK12.out hbw); clear HQ HM HO8 BK3 BK11 BK12; have HQ := n0_; have HM := n1_; have HO8 := n2_; have BK3 := n3_; have BK11 := n4_; have BK12 := n5_; clear n0_ n1_ n2_ n3_ n4_ n5_; clear hb hbw; have h3_0_w10 : w10.cell? ⟨g3, 0, none⟩ = some (.int .i64 (a : Int)) := (blk_cell BK3.out 0).trans rfl; have f3_0_w10 : w10.frozen? ⟨g3, 0, none⟩ = false := blk_frozen BK3.out 0; have h3_1_w10 : w10.cell? ⟨g3, 1, none⟩ = some (.int .i64 (b : Int)) := (blk_cell BK3.out 1).trans rfl; have f3_1_w10 : w10.frozen? ⟨g3, 1, none⟩ = false := blk_frozen BK3.out 1; have h11_0_w10 : w10.cell? ⟨g11, 0, none⟩ = some (.bool v) := (blk_cell BK11.out 0).trans rfl; have f11_0_w10 : w10.frozen? ⟨g11, 0, none⟩ = false := blk_frozen BK11.out 0; have h11_1_w10 : w10.cell? ⟨g11, 1, none⟩ = some (.int .i64 (p : Int)) := (blk_cell BK11.out 1).trans rfl; have f11_1_w10 : w10.frozen? ⟨g11, 1, none⟩ = false := blk_frozen BK11.out 1; have h12_0_w10 : w10.cell? ⟨g12, 0, none⟩ = some (.int .i64 0) := (blk_cell BK12.out 0).trans rfl; have f12_0_w10 : w10.frozen? ⟨g12, 0, none⟩ = false := blk_frozen BK12.out 0; have h12_1_w10 : w10.cell? ⟨g12, 1, none⟩ = some (.int .i64 0) := (blk_cell BK12.out 1).trans rfl; have f12_1_w10 : w10.frozen? ⟨g12, 1, none⟩ = false := blk_frozen BK12.out 1; have BK13 := n9_; clear n9_ hbox hg; have h13_0_w10 : w10.cell? ⟨g13, 0, none⟩ = some (.int .i64 0) := (blk_cell BK13.out 0).trans rfl; have f13_0_w10 : w10.frozen? ⟨g13, 0, none⟩ = false := blk_frozen BK13.out 0; have h13_1_w10 : w10.cell? ⟨g13, 1, none⟩ = some (.int .i64 0) := (blk_cell BK13.out 1).trans rfl; have f13_1_w10 : w10.frozen? ⟨g13, 1, none⟩ = false := blk_frozen BK13.out 1) | ((with_reducible refine gate_store (t := 26) (p := 12) rfl ?_); refine store_event (t := 26) (p := 12) (v := ?vo_w11) (w1 := ((w10.setCell ⟨g12, 0, none⟩ (.int .i64 (a1 : Int))).setCell ⟨g12, 1, none⟩ (.int .i64 (b1 : Int)))) ?hg ?ho ?hn ?hr ?_; (case ho => rfl); (case hg => rfl); (case hn => rfl); (case hr => first | (go_simp; done) | (go_simp; rfl)); intro w11 hw; have n0_ := Aside0.mk (show Kept w5 w11 (fun k => k = M ∨ k = g8) from (by rw [hw]; exact (Kept.setCell (Kept.setCell HQ.out (p := ⟨g12, 0, none⟩) (.inr GE12.out) _) (p := ⟨g12, 1, none⟩) (.inr GE12.out) _))); have n1_ := Aside0.mk (show EatEnv M w0 (fun k => ok k ∧ k ≠ g8) w11 from (by rw [hw]; exact (en_set (en_set HM.out BK12.out (by decide) (Nat.le_trans HSZ.out GE12.out) _ _) (blk_put (cs' := #[.int .i64 (a1 : Int), .int .i64 0]) BK12.out 0 _ rfl) (by decide) (Nat.le_trans HSZ.out GE12.out) _ _))); have n2_ := Aside0.mk (show Kd.R (Kd.int .i64) 3 w11 w0.heap.size (fun k => k = g8) (.slice (some ⟨g8, 0, none⟩) la c8) xs from (by rw [hw]; exact (Kd.R_far (Kd.R_far HO8.out (p := ⟨g12, 0, none⟩) (fun k_ hk_ => by rw [hk_]; exact NO12.out) _) (p := ⟨g12, 1, none⟩) (fun k_ hk_ => by rw [hk_]; exact NO12.out) _))); have n3_ := Aside0.mk (show w11.heap[g12]? = some (.cells #[.int .i64 (a1 : Int), .int .i64 (b1 : Int)] 26 (0, 0)) from (by rw [hw]; exact (blk_put (cs' := #[.int .i64 (a1 : Int), .int .i64 (b1 : Int)]) (blk_put (cs' := #[.int .i64 (a1 : Int), .int .i64 0]) BK12.out 0 _ rfl) 1 _ rfl))); have n4_ := Aside0.mk (show w11.heap[g3]? = some (.cells #[.int .i64 (a : Int), .int .i64 (b : Int)] 26 (0, 0)) from (by rw [hw]; exact (blk_far (blk_far BK3.out (p := ⟨g12, 0, none⟩) NB3_12.out _) (p := ⟨g12, 1, none⟩) NB3_12.out _))); have n5_ := Aside0.mk (show w11.heap[g11]? = some (.cells #[.bool v, .int .i64 (p : Int)] 60 (0, 0)) from (by rw [hw]; exact (blk_far (blk_far BK11.out (p := ⟨g12, 0, none⟩) NB11_12.out _) (p := ⟨g12, 1, none⟩) NB11_12.out _))); have n6_ := Aside0.mk (show w11.heap[g13]? = some (.cells #[.int .i64 0, .int .i64 0] 26 (0, 0)) from (by rw [hw]; exact (blk_far (blk_far BK13.out (p := ⟨g12, 0, none⟩) (Ne.symm NB12_13.out) _) (p := ⟨g12, 1, none⟩) (Ne.symm NB12_13.out) _))); clear HQ HM HO8 BK12 BK3 BK11 BK13; have HQ := n0_; have HM := n1_; have HO8 := n2_; have BK12 := n3_; have BK3 := n4_; have BK11 := n5_; have BK13 := n6_; clear n0_ n1_ n2_ n3_ n4_ n5_ n6_; clear hw; have h3_0_w11 : w11.cell? ⟨g3, 0, none⟩ = some (.int .i64 (a : Int)) := (blk_cell BK3.out 0).trans rfl; have f3_0_w11 : w11.frozen? ⟨g3, 0, none⟩ = false := blk_frozen BK3.out 0; have h3_1_w11 : w11.cell? ⟨g3, 1, none⟩ = some (.int .i64 (b : Int)) := (blk_cell BK3.out 1).trans rfl; have f3_1_w11 : w11.frozen? ⟨g3, 1, none⟩ = false := blk_frozen BK3.out 1; have h11_0_w11 : w11.cell? ⟨g11, 0, none⟩ = some (.bool v) := (blk_cell BK11.out 0).trans rfl; have f11_0_w11 : w11.frozen? ⟨g11, 0, none⟩ = false := blk_frozen BK11.out 0; have h11_1_w11 : w11.cell? ⟨g11, 1, none⟩ = some (.int .i64 (p : Int)) := (blk_cell BK11.out 1).trans rfl; have f11_1_w11 : w11.frozen? ⟨g11, 1, none⟩ = false := blk_frozen BK11.out 1; have h13_0_w11 : w11.cell? ⟨g13, 0, none⟩ = some (.int .i64 0) := (blk_cell BK13.out 0).trans rfl; have f13_0_w11 : w11.frozen? ⟨g13, 0, none⟩ = false := blk_frozen BK13.out 0; have h13_1_w11 : w11.cell? ⟨g13, 1, none⟩ = some (.int .i64 0) := (blk_cell BK13.out 1).trans rfl; have f13_1_w11 : w11.frozen? ⟨g13, 1, none⟩ = false := blk_frozen BK13.out 1; have h12_0_w11 : w11.cell? ⟨g12, 0, none⟩ = some (.int .i64 (a1 : Int)) := (blk_cell BK12.out 0).trans rfl; have f12_0_w11 : w11.frozen? ⟨g12, 0, none⟩ = false := blk_frozen BK12.out 0; have h12_1_w11 : w11.cell? ⟨g12, 1, none⟩ = some (.int .i64 (b1 : Int)) := (blk_cell BK12.out 1).trans rfl; have f12_1_w11 : w11.frozen? ⟨g12, 1, none⟩ = false := blk_frozen BK12.out 1) | ((with_reducible refine gate_store (t := 26) (p := 13) rfl ?_); refine store_event (t := 26) (p := 13) (v := ?vo_w12) (w1 := ((w11.setCell ⟨g13, 0, none⟩ (.int .i64 (a2 : Int))).setCell ⟨g13, 1, none⟩ (.int .i64 (b2 : Int)))) ?hg ?ho ?hn ?hr ?_; (case ho => rfl); (case hg => rfl); (case hn => rfl); (case hr => first | (go_simp; done) | (go_simp; rfl)); intro w12 hw; have n0_ := Aside0.mk (show Kept w5 w12 (fun k => k = M ∨ k = g8) from (by rw [hw]; exact (Kept.setCell (Kept.setCell HQ.out (p := ⟨g13, 0, none⟩) (.inr GE13.out) _) (p := ⟨g13, 1, none⟩) (.inr GE13.out) _))); have n1_ := Aside0.mk (show EatEnv M w0 (fun k => ok k ∧ k ≠ g8) w12 from (by rw [hw]; exact (en_set (en_set HM.out BK13.out (by decide) (Nat.le_trans HSZ.out GE13.out) _ _) (blk_put (cs' := #[.int .i64 (a2 : Int), .int .i64 0]) BK13.out 0 _ rfl) (by decide) (Nat.le_trans HSZ.out GE13.out) _ _))); have n2_ := Aside0.mk (show Kd.R (Kd.int .i64) 3 w12 w0.heap.size (fun k => k = g8) (.slice (some ⟨g8, 0, none⟩) la c8) xs from (by rw [hw]; exact (Kd.R_far (Kd.R_far HO8.out (p := ⟨g13, 0, none⟩) (fun k_ hk_ => by rw [hk_]; exact NO13.out) _) (p := ⟨g13, 1, none⟩) (fun k_ hk_ => by rw [hk_]; exact NO13.out) _))); have n3_ := Aside0.mk (show w12.heap[g13]? = some (.cells #[.int .i64 (a2 : Int), .int .i64 (b2 : Int)] 26 (0, 0)) from (by rw [hw]; exact (blk_put (cs' := #[.int .i64 (a2 : Int), .int .i64 (b2 : Int)]) (blk_put (cs' := #[.int .i64 (a2 : Int), .int .i64 0]) BK13.out 0 _ rfl) 1 _ rfl))); have n4_ := Aside0.mk (show w12.heap[g3]? = some (.cells #[.int .i64 (a : Int), .int .i64 (b : Int)] 26 (0, 0)) from (by rw [hw]; exact (blk_far (blk_far BK3.out (p := ⟨g13, 0, none⟩) NB3_13.out _) (p := ⟨g13, 1, none⟩) NB3_13.out _))); have n5_ := Aside0.mk (show w12.heap[g11]? = some (.cells #[.bool v, .int .i64 (p : Int)] 60 (0, 0)) from (by rw [hw]; exact (blk_far (blk_far BK11.out (p := ⟨g13, 0, none⟩) NB11_13.out _) (p := ⟨g13, 1, none⟩) NB11_13.out _))); have n6_ := Aside0.mk (show w12.heap[g12]? = some (.cells #[.int .i64 (a1 : Int), .int .i64 (b1 : Int)] 26 (0, 0)) from (by rw [hw]; exact (blk_far (blk_far BK12.out (p := ⟨g13, 0, none⟩) NB12_13.out _) (p := ⟨g13, 1, none⟩) NB12_13.out _))); clear HQ HM HO8 BK13 BK3 BK11 BK12; have HQ := n0_; have HM := n1_; have HO8 := n2_; have BK13 := n3_; have BK3 := n4_; have BK11 := n5_; have BK12 := n6_; clear n0_ n1_ n2_ n3_ n4_ n5_ n6_; clear hw; have h3_0_w12 : w12.cell? ⟨g3, 0, none⟩ = some (.int .i64 (a : Int)) := (blk_cell BK3.out 0).trans rfl; have f3_0_w12 : w12.frozen? ⟨g3, 0, none⟩ = false := blk_frozen BK3.out 0; have h3_1_w12 : w12.cell? ⟨g3, 1, none⟩ = some (.int .i64 (b : Int)) := (blk_cell BK3.out 1).trans rfl; have f3_1_w12 : w12.frozen? ⟨g3, 1, none⟩ = false := blk_frozen BK3.out 1; have h11_0_w12 : w12.cell? ⟨g11, 0, none⟩ = some (.bool v) := (blk_cell BK11.out 0).trans rfl; have f11_0_w12 : w12.frozen? ⟨g11, 0, none⟩ = false := blk_frozen BK11.out 0; have h11_1_w12 : w12.cell? ⟨g11, 1, none⟩ = some (.int .i64 (p : Int)) := (blk_cell BK11.out 1).trans rfl; have f11_1_w12 : w12.frozen? ⟨g11, 1, none⟩ = false := blk_frozen BK11.out 1; have h12_0_w12 : w12.cell? ⟨g12, 0, none⟩ = some (.int .i64 (a1 : Int)) := (blk_cell BK12.out 0).trans rfl; have f12_0_w12 : w12.frozen? ⟨g12, 0, none⟩ = false := blk_frozen BK12.out 0; have h12_1_w12 : w12.cell? ⟨g12, 1, none⟩ = some (.int .i64 (b1 : Int)) := (blk_cell BK12.out 1).trans rfl; have f12_1_w12 : w12.frozen? ⟨g12, 1, none⟩ = false := blk_frozen BK12.out 1; have h13_0_w12 : w12.cell? ⟨g13, 0, none⟩ = some (.int .i64 (a2 : Int)) := (blk_cell BK13.out 0).trans rfl; have f13_0_w12 : w12.frozen? ⟨g13, 0, none⟩ = false := blk_frozen BK13.out 0; have h13_1_w12 : w12.cell? ⟨g13, 1, none⟩ = some (.int .i64 (b2 : Int)) := (blk_cell BK13.out 1).trans rfl; have f13_1_w12 : w12.frozen? ⟨g13, 1, none⟩ = false := blk_frozen BK13.out 1))
              try clear h3_0_wr f3_0_wr h3_1_wr f3_1_wr
              try clear h3_0_w6 f3_0_w6 h3_1_w6 f3_1_w6
              try clear h3_0_w7 f3_0_w7 h3_1_w7 f3_1_w7
              try clear h3_0_w8 f3_0_w8 h3_1_w8 f3_1_w8
              try clear h3_0_w9 f3_0_w9 h3_1_w9 f3_1_w9
              try clear h3_0_w10 f3_0_w10 h3_1_w10 f3_1_w10
              try clear h3_0_w11 f3_0_w11 h3_1_w11 f3_1_w11
              try clear h3_0_w12 f3_0_w12 h3_1_w12 f3_1_w12
              try clear h11_0_wr f11_0_wr h11_1_wr f11_1_wr
              try clear h11_0_w6 f11_0_w6 h11_1_w6 f11_1_w6
              try clear h11_0_w7 f11_0_w7 h11_1_w7 f11_1_w7
              try clear h11_0_w8 f11_0_w8 h11_1_w8 f11_1_w8
              try clear h11_0_w9 f11_0_w9 h11_1_w9 f11_1_w9
              try clear h11_0_w10 f11_0_w10 h11_1_w10 f11_1_w10
              try clear h11_0_w11 f11_0_w11 h11_1_w11 f11_1_w11
              try clear h11_0_w12 f11_0_w12 h11_1_w12 f11_1_w12
              try clear h12_0_wr f12_0_wr h12_1_wr f12_1_wr
              try clear h12_0_w6 f12_0_w6 h12_1_w6 f12_1_w6
              try clear h12_0_w7 f12_0_w7 h12_1_w7 f12_1_w7
              try clear h12_0_w8 f12_0_w8 h12_1_w8 f12_1_w8
              try clear h12_0_w9 f12_0_w9 h12_1_w9 f12_1_w9
              try clear h12_0_w10 f12_0_w10 h12_1_w10 f12_1_w10
              try clear h12_0_w11 f12_0_w11 h12_1_w11 f12_1_w11
              try clear h12_0_w12 f12_0_w12 h12_1_w12 f12_1_w12
              try clear h13_0_wr f13_0_wr h13_1_wr f13_1_wr
              try clear h13_0_w6 f13_0_w6 h13_1_w6 f13_1_w6
              try clear h13_0_w7 f13_0_w7 h13_1_w7 f13_1_w7
              try clear h13_0_w8 f13_0_w8 h13_1_w8 f13_1_w8
              try clear h13_0_w9 f13_0_w9 h13_1_w9 f13_1_w9
              try clear h13_0_w10 f13_0_w10 h13_1_w10 f13_1_w10
              try clear h13_0_w11 f13_0_w11 h13_1_w11 f13_1_w11
              try clear h13_0_w12 f13_0_w12 h13_1_w12 f13_1_w12
              have TOK1 : True := trivial
              go_region_held3 (fun w' => w'.cell? ⟨g12, 0, none⟩ = some (.int .i64 (a1 : Int)) ∧ w'.cell? ⟨g12, 1, none⟩ = some (.int .i64 (b1 : Int)) ∧ w'.cell? ⟨g13, 0, none⟩ = some (.int .i64 (a2 : Int)) ∧ w'.cell? ⟨g13, 1, none⟩ = some (.int .i64 (b2 : Int)) ∧ w'.cell? ⟨g3, 0, none⟩ = some (.int .i64 (a : Int)) ∧ w'.cell? ⟨g3, 1, none⟩ = some (.int .i64 (b : Int)) ∧ w'.cell? ⟨g11, 0, none⟩ = some (.bool v)) (exact ⟨(blk_cell BK12.out 0).trans rfl, (blk_cell BK12.out 1).trans rfl, (blk_cell BK13.out 0).trans rfl, (blk_cell BK13.out 1).trans rfl, (blk_cell BK3.out 0).trans rfl, (blk_cell BK3.out 1).trans rfl, (blk_cell BK11.out 0).trans rfl⟩) (first | (((have tk_ := TOK1; clear tk_ TOK1); go_at_call 39; refine (ih a1 b1 J1.out S1.out (fun k => ok k ∧ k ≠ g8) _ ?hf_ ?he_).mono ?_; (case hf_ => exact fun k_ hk_ => HFR8.out k_ (Nat.le_trans HQ.out.1 hk_)); (case he_ => first | (with_reducible exact HM.out) | exact en_below HM.out (below_drew1 (Below.refl _ _))); rintro e w14 ⟨gF, cF, rfl, hgr, henv, hrow⟩; rw [HLF.out] at hrow ⊢; rw [HF1.out] at hrow; have hgw : w12.grownBy w14 (some M) := (by first | (with_reducible exact hgr) | exact grown_trans (gr_drew (World.grownBy.refl _ _)) hgr); have n0_ := Aside0.mk (grown_kept hgw HQ.out (.inl rfl)); have n1_ := Aside0.mk (Kd.R_grown HO8.out hgw (fun k hk e => NE8M.out (hk.symm.trans (Option.some.inj e)))); have n2_ := Aside0.mk (blk_grown (g := g3) (o := .cells #[.int .i64 (a : Int), .int .i64 (b : Int)] 26 (0, 0)) BK3.out hgw (fun e => HM.out.mem.ne BK3.out (Option.some.inj e))); have n3_ := Aside0.mk (blk_grown (g := g11) (o := .cells #[.bool v, .int .i64 (p : Int)] 60 (0, 0)) BK11.out hgw (fun e => HM.out.mem.ne BK11.out (Option.some.inj e))); have n4_ := Aside0.mk (blk_grown (g := g12) (o := .cells #[.int .i64 (a1 : Int), .int .i64 (b1 : Int)] 26 (0, 0)) BK12.out hgw (fun e => HM.out.mem.ne BK12.out (Option.some.inj e))); have n5_ := Aside0.mk (blk_grown (g := g13) (o := .cells #[.int .i64 (a2 : Int), .int .i64 (b2 : Int)] 26 (0, 0)) BK13.out hgw (fun e => HM.out.mem.ne BK13.out (Option.some.inj e))); have n6_ := Aside0.mk (henv); clear HQ HO8 BK3 BK11 BK12 BK13 HM; have HQ := n0_; have HO8 := n1_; have BK3 := n2_; have BK11 := n3_; have BK12 := n4_; have BK13 := n5_; have HM := n6_; clear n0_ n1_ n2_ n3_ n4_ n5_ n6_; have HRF := Aside0.mk hrow; clear hgr henv hrow hgw)) | ((go_at_call 39; refine (ih a2 b2 J2.out S2.out (fun k => ok k ∧ k ≠ g8) _ ?hf_ ?he_).mono ?_; (case hf_ => exact fun k_ hk_ => HFR8.out k_ (Nat.le_trans HQ.out.1 hk_)); (case he_ => first | (with_reducible exact HM.out) | exact en_below HM.out (below_drew1 (Below.refl _ _))); rintro e w16 ⟨gS, cS, rfl, hgr, henv, hrow⟩; rw [HLS.out] at hrow ⊢; rw [HF2.out] at hrow; have hgw : w14.grownBy w16 (some M) := (by first | (with_reducible exact hgr) | exact grown_trans (gr_drew (World.grownBy.refl _ _)) hgr); have n0_ := Aside0.mk (grown_kept hgw HQ.out (.inl rfl)); have n1_ := Aside0.mk (Kd.R_grown HO8.out hgw (fun k hk e => NE8M.out (hk.symm.trans (Option.some.inj e)))); have n2_ := Aside0.mk (blk_grown (g := g3) (o := .cells #[.int .i64 (a : Int), .int .i64 (b : Int)] 26 (0, 0)) BK3.out hgw (fun e => HM.out.mem.ne BK3.out (Option.some.inj e))); have n3_ := Aside0.mk (blk_grown (g := g11) (o := .cells #[.bool v, .int .i64 (p : Int)] 60 (0, 0)) BK11.out hgw (fun e => HM.out.mem.ne BK11.out (Option.some.inj e))); have n4_ := Aside0.mk (blk_grown (g := g12) (o := .cells #[.int .i64 (a1 : Int), .int .i64 (b1 : Int)] 26 (0, 0)) BK12.out hgw (fun e => HM.out.mem.ne BK12.out (Option.some.inj e))); have n5_ := Aside0.mk (blk_grown (g := g13) (o := .cells #[.int .i64 (a2 : Int), .int .i64 (b2 : Int)] 26 (0, 0)) BK13.out hgw (fun e => HM.out.mem.ne BK13.out (Option.some.inj e))); have n6_ := Aside0.mk (Kd.R_mono (Kd.R_grown (Kd.R_bound HRF.out) hgw (fun k hk e => by obtain ⟨_, _, _, q, _, cells, hc⟩ := hk; exact HM.out.mem.ne hc (Option.some.inj e))) (fun k hk => hk.1)); have n7_ := Aside0.mk (henv); clear HQ HO8 BK3 BK11 BK12 BK13 HRF HM; have HQ := n0_; have HO8 := n1_; have BK3 := n2_; have BK11 := n3_; have BK12 := n4_; have BK13 := n5_; have HRF := n6_; have HM := n7_; clear n0_ n1_ n2_ n3_ n4_ n5_ n6_ n7_; have HRS := Aside0.mk hrow; clear hgr henv hrow hgw)) | ((go_at_call 44; refine (impl_Bar_line.calls _ _ _ _ _ HLN.out).mono ?_; rintro e w18 ⟨rfl, hb⟩; have hbw : Below w16.heap.size w16 w18 := below_step (by repeat (first | (with_reducible first | exact (Below.refl w16.heap.size w16) | apply below_alloc | apply pw_below_drewN | apply below_drew1) | exact (Below.refl w16.heap.size w16)) : Below w16.heap.size w16 _) hb; have n0_ := Aside0.mk (Kept.below HQ.out hbw); have n1_ := Aside0.mk (en_below HM.out hbw); have n2_ := Aside0.mk (Kd.R_below HO8.out hbw); have n3_ := Aside0.mk (Kd.R_below HRF.out hbw); have n4_ := Aside0.mk (Kd.R_below HRS.out hbw); have n5_ := Aside0.mk (blk_below BK3.out hbw); have n6_ := Aside0.mk (blk_below BK11.out hbw); have n7_ := Aside0.mk (blk_below BK12.out hbw); have n8_ := Aside0.mk (blk_below BK13.out hbw); clear HQ HM HO8 HRF HRS BK3 BK11 BK12 BK13; have HQ := n0_; have HM := n1_; have HO8 := n2_; have HRF := n3_; have HRS := n4_; have BK3 := n5_; have BK11 := n6_; have BK12 := n7_; have BK13 := n8_; clear n0_ n1_ n2_ n3_ n4_ n5_ n6_ n7_ n8_; clear hb hbw)))
              go_wp2
              have HSPo := HSP.out
              have HO88 := HO8
              go_loopg [73] (lf + 1) (fun kq v73 w' => ∃ n3 : Nat, v73 = .int .i64 (n3 : Int) ∧ Aside0 (n3 ≤ lf) ∧ Aside0 (lf - n3 ≤ kq) ∧ Aside0 (w18.grownBy w' (some g8)) ∧ Aside0 (Kd.R (Kd.int .i64) 3 w' w0.heap.size (fun k => k = g8) (.slice (some ⟨g8, 0, none⟩) la c8) (inI sq f1 f2 xs n3)))
              case atStart => exact ⟨0, rfl, ⟨Nat.zero_le _⟩, ⟨by omega⟩, ⟨World.grownBy.refl _ _⟩, HO8⟩
              case round =>
                clear HO8
                obtain ⟨n3, rfl, hn3, hq3, HQ3, HO8⟩ := hrel
                by_cases hl3 : n3 < lf
                · have c3 : decide ((n3 : Int) < (lf : Int)) = true := decide_eq_true (by omega)
                  have c30 : decide (n3 < lf) = true := decide_eq_true hl3
                  have p3 : (0 : Int) ≤ (n3 : Int) := by omega
                  have q3 : (n3 : Int) < (lf : Int) := by omega
                  obtain ⟨hxF, _⟩ := cell_rd (Kd.R_grown HRF.out HQ3.out (fun k hk e => hk.2 (Option.some.inj e))) n3 hl3
                  have hmb := B1.out.1.rd (by decide) n3
                  have hii : inI sq f1 f2 xs (n3 + 1) = inK sq (rd f1 (n3 : Int)) f2 n3 (inI sq f1 f2 xs n3) f2.length := rfl
                  rw [LL.out.2] at hii
                  obtain ⟨m, hm⟩ : ∃ z, rd f1 (n3 : Int) = z := ⟨_, rfl⟩
                  rw [hm] at hxF hmb hii
                  have HII := Aside0.mk hii
                  obtain ⟨ys, hys⟩ : ∃ z, inI sq f1 f2 xs n3 = z := ⟨_, rfl⟩
                  rw [hys] at HO8 HII
                  have HMB := Aside0.mk hmb
                  have HQ3Q := Aside0.mk (show lf - (n3 + 1) ≤ gk - 1 ∧ 0 < gk by have := hq3.out; omega)
                  have HL3 := Aside0.mk hl3
                  clear hm hys hii hmb hn3 hq3
                  go_wp2
                  go_loopg [80] (ls + 1) (fun kq v80 w' => ∃ n4 : Nat, v80 = .int .i64 (n4 : Int) ∧ Aside0 (n4 ≤ ls) ∧ Aside0 (ls - n4 ≤ kq) ∧ Aside0 (w18.grownBy w' (some g8)) ∧ Aside0 (Kd.R (Kd.int .i64) 3 w' w0.heap.size (fun k => k = g8) (.slice (some ⟨g8, 0, none⟩) la c8) (inK sq m f2 n3 ys n4)))
                  case atStart => exact ⟨0, rfl, ⟨Nat.zero_le _⟩, ⟨by omega⟩, HQ3, HO8⟩
                  case round =>
                    clear HO8 HQ3
                    obtain ⟨n4, rfl, hn4, hq4, HQ3, HO8⟩ := hrel
                    by_cases hl4 : n4 < ls
                    · have c4 : decide ((n4 : Int) < (ls : Int)) = true := decide_eq_true (by omega)
                      have c40 : decide (n4 < ls) = true := decide_eq_true hl4
                      have p4 : (0 : Int) ≤ (n4 : Int) := by omega
                      have q4 : (n4 : Int) < (ls : Int) := by omega
                      obtain ⟨hxS, _⟩ := cell_rd (Kd.R_grown HRS.out HQ3.out (fun k hk e => hk.2 (Option.some.inj e))) n4 hl4
                      have hxb := B1.out.2.rd (by decide) n4
                      obtain ⟨nj, hnj⟩ : ∃ z : Nat, n3 + n4 = z := ⟨_, rfl⟩
                      have hnl : nj < la := by omega
                      have hjz : (0 : Int) ≤ (nj : Int) := by omega
                      have hjl : (nj : Int) < (la : Int) := by omega
                      obtain ⟨hxO, hfO⟩ := cell_rd HO8.out nj hnl
                      have hkk : inK sq m f2 n3 ys (n4 + 1) = upd (inK sq m f2 n3 ys n4) (n3 + n4) (sq + m + rd f2 (n4 : Int)) := rfl
                      rw [hnj] at hkk
                      unfold upd at hkk
                      obtain ⟨x, hx⟩ : ∃ z, rd f2 (n4 : Int) = z := ⟨_, rfl⟩
                      rw [hx] at hxS hxb hkk
                      obtain ⟨zs, hzs⟩ : ∃ z, inK sq m f2 n3 ys n4 = z := ⟨_, rfl⟩
                      rw [hzs] at hxO hkk HO8
                      obtain ⟨cu, hcu⟩ : ∃ z, rd zs (nj : Int) = z := ⟨_, rfl⟩
                      rw [hcu] at hxO hkk
                      have hsb := HSQ.out
                      have hmb := HMB.out
                      obtain ⟨cm, hcm⟩ : ∃ z, sq + m = z := ⟨_, rfl⟩
                      obtain ⟨ow, how⟩ : ∃ z, cm + x = z := ⟨_, rfl⟩
                      have w1_ := Aside0.mk (show wrap64 (sq + m) = cm by rw [w64 (by omega) (by omega)]; exact hcm)
                      have w2_ := Aside0.mk (show wrap64 (cm + x) = ow by rw [w64 (by omega) (by omega)]; exact how)
                      have w3_ := Aside0.mk (show wrap64 ((n3 : Int) + (n4 : Int)) = (nj : Int) by rw [w64 (by omega) (by omega)]; omega)
                      rw [hcm, how] at hkk
                      have HKK := Aside0.mk hkk
                      have HQ4Q := Aside0.mk (show ls - (n4 + 1) ≤ gk - 1 ∧ 0 < gk by have := hq4.out; omega)
                      have HL4 := Aside0.mk hl4
                      have e4 : (n4 : Int) + 1 ≤ 1000 := by omega
                      clear hx hzs hcu hcm how hkk hsb hmb hxb hnj hn4 hq4
                      have hml := HML.out; have hw1 := w1_.out; have hw2 := w2_.out; have hw3 := w3_.out
                      have hmlW : IntKind.i64.wrap ((ln : Int) * (ln : Int)) = sq := by rw [i64_w]; exact hml
                      have hw1W : IntKind.i64.wrap (sq + m) = cm := by rw [i64_w]; exact hw1
                      have hw2W : IntKind.i64.wrap (cm + x) = ow := by rw [i64_w]; exact hw2
                      have hw3W : IntKind.i64.wrap ((n3 : Int) + (n4 : Int)) = (nj : Int) := by rw [i64_w]; exact hw3
                      by_cases hcu : cu < 0
                      · have d1 : decide (cu < 0) = true := decide_eq_true hcu
                        have hnew : inK sq m f2 n3 ys (n4 + 1) = zs.set nj ow := by rw [HKK.out, if_pos (.inl hcu)]
                        have HP := Aside0.mk (put_rd HO8.out nj ow)
                        rw [← hnew] at HP
                        clear hnew HKK
                        go_wp2_with (first | ((with_reducible refine gate_store (t := 3) (p := 114) rfl ?_); refine store_event (t := 3) (p := 114) (v := ?vo_w40) (w1 := (wr.setCell ⟨g8, nj, none⟩ (.int .i64 (ow)))) ?hg ?ho ?hn ?hr ?_; (case ho => rfl); (case hg => rfl); (case hn => rfl); (case hr => first | (go_simp; done) | (go_simp; rfl)); intro w40 hw; have n0_ := Aside0.mk (show Kd.R (Kd.int .i64) 3 w40 w0.heap.size (fun k => k = g8) (.slice (some ⟨g8, 0, none⟩) la c8) (inK sq m f2 n3 ys (n4 + 1)) from (by rw [hw]; exact HP.out.1)); have n1_ := Aside0.mk (grown_trans HQ3.out (show wr.grownBy w40 (some g8) from (by rw [hw]; exact HP.out.2))); clear HO8 HQ3 HP hw; have HO8 := n0_; have HQ3 := n1_; clear n0_ n1_))
                        clear hml hw1 hw2 hw3 hmlW hw1W hw2W hw3W
                        go_roundg (gk - 1)
                        case measure => have := HQ4Q.out; omega
                        case rel => exact ⟨n4 + 1, by go_num, ⟨HL4.out⟩, ⟨HQ4Q.out.1⟩, HQ3, HO8⟩
                      · have d1 : decide (cu < 0) = false := decide_eq_false hcu
                        by_cases hlo : ow < cu
                        · have d2 : decide (ow < cu) = true := decide_eq_true hlo
                          have hnew : inK sq m f2 n3 ys (n4 + 1) = zs.set nj ow := by rw [HKK.out, if_pos (.inr hlo)]
                          have HP := Aside0.mk (put_rd HO8.out nj ow)
                          rw [← hnew] at HP
                          clear hnew HKK
                          go_wp2_with (first | ((with_reducible refine gate_store (t := 3) (p := 114) rfl ?_); refine store_event (t := 3) (p := 114) (v := ?vo_w40) (w1 := (wr.setCell ⟨g8, nj, none⟩ (.int .i64 (ow)))) ?hg ?ho ?hn ?hr ?_; (case ho => rfl); (case hg => rfl); (case hn => rfl); (case hr => first | (go_simp; done) | (go_simp; rfl)); intro w40 hw; have n0_ := Aside0.mk (show Kd.R (Kd.int .i64) 3 w40 w0.heap.size (fun k => k = g8) (.slice (some ⟨g8, 0, none⟩) la c8) (inK sq m f2 n3 ys (n4 + 1)) from (by rw [hw]; exact HP.out.1)); have n1_ := Aside0.mk (grown_trans HQ3.out (show wr.grownBy w40 (some g8) from (by rw [hw]; exact HP.out.2))); clear HO8 HQ3 HP hw; have HO8 := n0_; have HQ3 := n1_; clear n0_ n1_))
                          clear hml hw1 hw2 hw3 hmlW hw1W hw2W hw3W
                          go_roundg (gk - 1)
                          case measure => have := HQ4Q.out; omega
                          case rel => exact ⟨n4 + 1, by go_num, ⟨HL4.out⟩, ⟨HQ4Q.out.1⟩, HQ3, HO8⟩
                        · have d2 : decide (ow < cu) = false := decide_eq_false hlo
                          have hnew : inK sq m f2 n3 ys (n4 + 1) = zs := by rw [HKK.out, if_neg (fun h => h.elim hcu hlo)]
                          rw [← hnew] at HO8
                          clear hnew HKK
                          go_wp2
                          clear hml hw1 hw2 hw3 hmlW hw1W hw2W hw3W
                          go_roundg (gk - 1)
                          case measure => have := HQ4Q.out; omega
                          case rel => exact ⟨n4 + 1, by go_num, ⟨HL4.out⟩, ⟨HQ4Q.out.1⟩, HQ3, HO8⟩
                    · have c4 : decide ((n4 : Int) < (ls : Int)) = false := decide_eq_false (by omega)
                      have c40 : decide (n4 < ls) = false := decide_eq_false hl4
                      obtain rfl : n4 = ls := by have := hn4.out; omega
                      rw [← HII.out] at HO8
                      have e3 : (n3 : Int) + 1 ≤ 1000 := by have := HL3.out; omega
                      clear hl4 hn4 hq4
                      go_wp2
                      go_roundg (lf - (n3 + 1))
                      case measure => have := HQ3Q.out; omega
                      case rel => exact ⟨n3 + 1, by go_num, ⟨HL3.out⟩, ⟨Nat.le_refl _⟩, HQ3, HO8⟩
                · have c3 : decide ((n3 : Int) < (lf : Int)) = false := decide_eq_false (by omega)
                  have c30 : decide (n3 < lf) = false := decide_eq_false hl3
                  obtain rfl : n3 = lf := by have := hn3.out; omega
                  rw [← HNXT.out] at HO8
                  have n0_ := Aside0.mk (Kept.of_grown HQ3.out HQ.out (fun k e => by cases e; exact .inl (.inr rfl)))
                  have n1_ := Aside0.mk (en_row HM.out HQ3.out NE8M.out (fun k hk => hk.2) GZ8.out)
                  clear HQ HM
                  have HQ := n0_; have HM := n1_
                  clear n0_ n1_
                  have e1 : (n : Int) + 1 ≤ 1000 := by have := HLT.out; have := HCL.out; omega
                  clear hl3 hn3 hq3
                  go_wp2
                  go_roundg (cs.length - (n + 1))
                  case measure => have := HQQ.out; omega
                  case rel => exact ⟨n + 1, by go_num, ⟨HLT.out⟩, ⟨Nat.le_refl _⟩, HQ, HM, HO8⟩
            · have c0 : decide ((n : Int) < (cs.length : Int)) = false := decide_eq_false (by omega)
              have c00 : decide (n < cs.length) = false := decide_eq_false hlt
              obtain rfl : n = cs.length := by have := hn.out; omega
              have hee : eatUp (a, b) cs cs.length = eat (a, b) := by rw [FE.out]; unfold eatUp; rw [List.take_length]
              rw [hee] at HO8
              clear hee hlt hn hq
              have HGF := Aside0.mk (grown_kept2 HG5.out HQ.out GW8.out HM5.out.below HM.out.below)
              have HMF := Aside0.mk (en_bound (en_mono HM.out (ok' := ok) (fun k hk => hk.1)))
              have HRB := Aside0.mk (Kd.R_mono (Kd.R_bound HO8.out) (ok' := fun k => ok k ∧ k < wr.heap.size ∧ ∃ cells, wr.heap[k]? = some (.cells cells 3 (0, 0))) (fun k hk => ⟨by rw [hk.1]; exact HF8.out, hk.2.2.1, by
                obtain ⟨q, hq, cells, hc⟩ := hk.2.2.2
                obtain rfl : q = 3 := by simpa [Kd.int, Kd.scalar] using hq
                exact ⟨cells, hc⟩⟩))
              have HSM := Aside0.mk (show ∀ q', keyB q' = keyB (a, b) → eatG w0 (fun k => ok k ∧ k < wr.heap.size ∧ ∃ cells, wr.heap[k]? = some (.cells cells 3 (0, 0))) wr q' (.slice (some ⟨g8, 0, none⟩) la c8) from fun q' hk h9 => by
                have e1 := keyB_some q' h9
                rw [hk] at e1
                obtain rfl := valB_inj (law26.inj e1 (keyB_some (a, b) HI.out))
                exact HRB.out)
              go_wp2_with (first | (at_mapUpdate; refine wp_store rfl _ _ _ 54 rfl 35 law26 Try.underlying54 ksB_lt rfl HMF.out.mem (a, b) _ _ rfl rfl (keyB_some _ HI.out) (List.mem_map.2 ⟨_, mem_barsB _ HI.out, rfl⟩) HSM.out ?_; intro w50 hm50 hg50; have HM6 := Aside0.mk hm50; have HG6 := Aside0.mk hg50; clear hm50 hg50))
              go_ret
              rw [HLA.out]
              have hne : ∀ k, (ok k ∧ k < wr.heap.size ∧ ∃ cells, wr.heap[k]? = some (.cells cells 3 (0, 0))) → some k ≠ some M := fun k hk e => by obtain ⟨cells, hc⟩ := hk.2.2; exact HMF.out.mem.ne hc (Option.some.inj e)
              refine ⟨_, _, rfl, grown_trans HGF.out HG6.out, ⟨pw_below_grown HM.out.below (some M) (below_size HM.out.below) HG6.out (fun k e => by cases e; exact HM.out.hM), HM.out.hM, HM6.out.mono (fun q v hv i => Kd.R_mono (Kd.R_grown (hv i) HG6.out hne) (fun k hk => hk.1))⟩, Kd.R_mono (Kd.R_grown HRB.out HG6.out hne) (fun k hk => hk.1)⟩
end
end Go.Proofs.Ythlnpbdjblocfaa.P
