/- laws.FnExactParseNuts: the call hands back true wherever the program and the reference agree and the marks hold. Condition: the number that the shelf's search reads is where it is laid. -/
import Derived.Test.YthfmfeghipjpdaaDoorPx0
import Derived.Test.YthfmfeghipjpdaaDoorOParseN
import Derived.Test.YthfmfeghipjpdaaDoorPx70
import Derived.Test.YthfmfeghipjpdaaDoorPx10
import Derived.Test.YthfmfeghipjpdaaDoorPx31
import Derived.Test.YthfmfeghipjpdaaDoorPx32
namespace Go.Proofs.YthfmfeghipjpdaaDoor.P
open Go.RowKit Go.Proofs.YthfmfeghipjpdaaDoorW.PrintWords Go.Proofs.YthfmfeghipjpdaaDoorW.PrintLast Go.Proofs.YthfmfeghipjpdaaDoorW.PrintMore
set_option linter.unusedVariables false
set_option linter.unusedSimpArgs false
/-- What the law's run leans on, at one number of rounds. -/
structure ParseOk (k : Nat) (a0 : ByteArray) (r1 : List ByteArray) (r2 : Bool) (m : Int) (r' : List ByteArray) : Prop where
  sm : spec_ParseNuts.f k a0 = some (r1, r2)
  im : impl_ParseNuts.f a0 = some (r1, r2)
  eq : laws_eqStringS.f k r1 r1 = some true
  mi : laws_markStringS.f k r1 1 = some (m, r')
  hs : laws_heldStringS.f k r' 1 = some m
  m0 : ¬ m < 0
open Classical in
noncomputable def laws_FnExactParseNuts.f (k : Nat) (a0 : ByteArray) : Option Bool := if (a0.size : Int) > 1048576 then some true else if ∃ r1 r2 m r', ParseOk k a0 r1 r2 m r' then some true else none
set_option maxHeartbeats 8000000 in
set_option maxRecDepth 100000 in
theorem laws_FnExactParseNuts.calls (k : Nat) (a0 : ByteArray) (m0 : Int) (r : Bool) (w : World) (hm : w.cell? ⟨0, 0, none⟩ = some (.int .i64 m0)) (h : laws_FnExactParseNuts.f k a0 = some r) :
    Calls Tryd.prog 13 #[.string a0] w fun e w' => e = .returned (.bool r) ∧ Below w.heap.size w w' := by
  have HB := Aside0.mk (Below.refl w.heap.size w)
  have HM := Aside0.mk hm
  have HZ := Aside0.mk (show 0 < w.heap.size from World.block_lt_of_cell? w _ hm)
  clear hm
  unfold laws_FnExactParseNuts.f at h
  by_cases c : (a0.size : Int) > 1048576
  · rw [if_pos c] at h
    obtain rfl := Option.some.inj h
    have cb : decide (1048576 < (a0.size : Int)) = true := decide_eq_true c
    clear c h
    go_enter Tryd.func13, Tryd.ntmps13
    go_wp2
    go_ret
    exact ⟨rfl, (by repeat (first | (with_reducible first | exact HB.out | apply below_alloc | apply pw_below_drewN | apply below_drew1) | exact HB.out))⟩
  · rw [if_neg c] at h
    by_cases ho : ∃ r1 r2 m r', ParseOk k a0 r1 r2 m r'
    case neg =>
      rw [if_neg ho] at h
      cases h
    rw [if_pos ho] at h
    obtain rfl := Option.some.inj h
    have cb : decide (1048576 < (a0.size : Int)) = false := decide_eq_false c
    clear c h
    obtain ⟨r1, r2, m, r', h⟩ := ho
    have SM := Aside0.mk h.sm
    have IM := Aside0.mk h.im
    have EQ := Aside0.mk h.eq
    have MK := Aside0.mk h.mi
    have HS := Aside0.mk h.hs
    have d6 : decide (m < 0) = false := decide_eq_false h.m0
    have d7 : (r2 != r2) = false := by cases r2 <;> rfl
    have d8 : (m != m) = false := bne_self_eq_false m
    clear h
    go_enter Tryd.func13, Tryd.ntmps13
    go_wp2_with (first | ((with_reducible refine gate_callee (f := 43) rfl ?_); refine goesL_ (some 16) rfl rfl Tryd.func43 (by kernel_rfl) rfl #[.string a0] rfl (by (try simp only [List.map_toArray, List.map_cons, List.map_nil]); first | done | rfl | (rw [← E6.out] <;> rfl)) ?_; (with_reducible refine (spec_ParseNuts.calls k a0 r1 r2 _ SM.out).mono ?_); rintro e w2 ⟨v3, rfl, ho, hb⟩; refine ⟨_, rfl, ?_⟩; have n0_ := Aside0.mk (Kd.R_mono (ok' := fun k_ => k_ < w2.heap.size) (Kd.R_lower (Kd.R_bound ho) (below_size (by repeat (first | (with_reducible first | exact HB.out | apply below_alloc | apply pw_below_drewN | apply below_drew1) | exact HB.out)))) (fun _ h_ => h_.2.2.1)); have n1_ := Aside0.mk (below_step (by repeat (first | (with_reducible first | exact HB.out | apply below_alloc | apply pw_below_drewN | apply below_drew1) | exact HB.out)) hb); clear HB; have HO3 := n0_; have HB := n1_; clear n0_ n1_; clear ho hb; obtain ⟨A3, c3, e3⟩ := Kd.R_slice HO3.out; subst e3; obtain ⟨N1, hN1⟩ : ∃ n_ : Nat, n_ = w2.heap.size := ⟨_, rfl⟩; rw [← hN1] at HO3; have EN1 := Aside0.mk hN1; clear hN1) | ((with_reducible refine gate_callee (f := 44) rfl ?_); refine goesL_ (some 21) rfl rfl Tryd.func44 (by kernel_rfl) rfl #[.string a0] rfl (by (try simp only [List.map_toArray, List.map_cons, List.map_nil]); first | done | rfl | (rw [← E6.out] <;> rfl)) ?_; (with_reducible refine (impl_ParseNuts.calls a0 m0 r1 r2 _ ?hm IM.out).mono ?_); (case hm => exact (((by repeat (first | (with_reducible first | exact HB.out | apply below_alloc | apply pw_below_drewN | apply below_drew1) | exact HB.out)) : Below w.heap.size w _).cell (p := ⟨0, 0, none⟩) HZ.out).trans HM.out); rintro e w4 ⟨v6, rfl, ho, hb⟩; refine ⟨_, rfl, ?_⟩; have n0_ := Aside0.mk (Kd.R_below (by (with_reducible repeat (first | apply Kd.R_alloc | apply Kd.R_drewN | apply Kd.R_drew)); exact HO3.out) hb); have n1_ := Aside0.mk (Kd.R_mono (ok' := fun k_ => N1 ≤ k_) (Kd.R_lower (Kd.R_bound ho) (below_size (by repeat (first | (with_reducible first | exact HB.out | apply below_alloc | apply pw_below_drewN | apply below_drew1) | exact HB.out)))) (fun _ h_ => by rw [EN1.out]; exact h_.2.1)); have n2_ := Aside0.mk (below_step (by repeat (first | (with_reducible first | exact HB.out | apply below_alloc | apply pw_below_drewN | apply below_drew1) | exact HB.out)) hb); clear HO3 HB; have HO3 := n0_; have HO6 := n1_; have HB := n2_; clear n0_ n1_ n2_; clear ho hb; obtain ⟨A6, c6, e6⟩ := Kd.R_slice HO6.out; subst e6) | ((with_reducible refine gate_callee (f := 18) rfl ?_); refine goesL_ (some 26) rfl rfl Tryd.func18 (by kernel_rfl) rfl #[.slice A6 r1.length c6, .slice A3 r1.length c3] rfl (by (try simp only [List.map_toArray, List.map_cons, List.map_nil]); first | done | rfl | (rw [← E6.out] <;> rfl)) ?_; (with_reducible refine (laws_eqStringS.calls k _ _ r1 _ _ r1 true _ ?side1 ?side2 ?side3 ?side4 EQ.out).mono ?_); (case side1 => repeat (first | exact (Kd.R_reads' HO6.out).2.2 | (with_reducible refine Kd.C_alloc ?_ _) | (with_reducible refine Kd.C_drewN ?_ _) | (with_reducible refine Kd.C_drew ?_))); (case side2 => exact (Kd.R_reads' HO6.out).2.1); (case side3 => repeat (first | exact (Kd.R_reads' HO3.out).2.2 | (with_reducible refine Kd.C_alloc ?_ _) | (with_reducible refine Kd.C_drewN ?_ _) | (with_reducible refine Kd.C_drew ?_))); (case side4 => exact (Kd.R_reads' HO3.out).2.1); rintro e w' ⟨rfl, ⟨nd, rfl⟩⟩; refine ⟨_, rfl, ?_⟩) | ((with_reducible refine gate_callee (f := 26) rfl ?_); refine goesL_ (some 35) rfl rfl Tryd.func26 (by kernel_rfl) rfl #[.slice A6 r1.length c6, .int .i64 1] rfl (by (try simp only [List.map_toArray, List.map_cons, List.map_nil]); first | done | rfl | (rw [← E6.out] <;> rfl)) ?_; (with_reducible refine (laws_markStringS.calls k (fun k_ => N1 ≤ k_) (.slice A6 r1.length c6) r1 1 m r' w _ ?side1 ?side2 MK.out).mono ?_); (case side1 => exact (by repeat (first | (with_reducible first | exact HB.out | apply below_alloc | apply pw_below_drewN | apply below_drew1) | exact HB.out))); (case side2 => exact (by (with_reducible repeat (first | apply Kd.R_alloc | apply Kd.R_drewN | apply Kd.R_drew)); exact HO6.out)); rintro e w6 ⟨rfl, hy0, hb, hkp⟩; refine ⟨_, rfl, ?_⟩; have n0_ := Aside0.mk (Kd.R_kept (by (with_reducible repeat (first | apply Kd.R_alloc | apply Kd.R_drewN | apply Kd.R_drew)); exact HO3.out) hkp (fun k_ h_ hs_ => Nat.lt_irrefl _ (Nat.lt_of_lt_of_le h_ hs_))); have n1_ := Aside0.mk (Kd.R_mono (ok' := fun _ => True) hy0 (fun _ _ => trivial)); have n2_ := Aside0.mk hb; clear HO3 HO6 HB; have HO3 := n0_; have HO6 := n1_; have HB := n2_; clear n0_ n1_ n2_; clear hy0 hb hkp; have E6 := Aside0.mk (Kd.R_reads' HO6.out).1) | ((with_reducible refine gate_callee (f := 27) rfl ?_); refine goesL_ (some 38) rfl rfl Tryd.func27 (by kernel_rfl) rfl #[.slice A6 r'.length c6, .int .i64 1] rfl (by (try simp only [List.map_toArray, List.map_cons, List.map_nil]); first | done | rfl | (rw [← E6.out] <;> rfl)) ?_; (with_reducible refine (laws_heldStringS.calls k _ _ r' 1 m _ ?side1 ?side2 HS.out).mono ?_); (case side1 => repeat (first | exact (Kd.R_reads' HO6.out).2.2 | (with_reducible refine Kd.C_alloc ?_ _) | (with_reducible refine Kd.C_drewN ?_ _) | (with_reducible refine Kd.C_drew ?_))); (case side2 => (rw [← E6.out]; exact (Kd.R_reads' HO6.out).2.1)); rintro e w7 ⟨rfl, hb⟩; refine ⟨_, rfl, ?_⟩; have n0_ := Aside0.mk (Kd.R_below (by (with_reducible repeat (first | apply Kd.R_alloc | apply Kd.R_drewN | apply Kd.R_drew)); exact HO3.out) hb); have n1_ := Aside0.mk (Kd.R_below (by (with_reducible repeat (first | apply Kd.R_alloc | apply Kd.R_drewN | apply Kd.R_drew)); exact HO6.out) hb); have n2_ := Aside0.mk (below_step (by repeat (first | (with_reducible first | exact HB.out | apply below_alloc | apply pw_below_drewN | apply below_drew1) | exact HB.out)) hb); clear HO3 HO6 HB; have HO3 := n0_; have HO6 := n1_; have HB := n2_; clear n0_ n1_ n2_; clear hb) | ((with_reducible refine gate_callee (f := 44) rfl ?_); refine goesL_ (some 46) rfl rfl Tryd.func44 (by kernel_rfl) rfl #[.string a0] rfl (by (try simp only [List.map_toArray, List.map_cons, List.map_nil]); first | done | rfl | (rw [← E6.out] <;> rfl)) ?_; (with_reducible refine (impl_ParseNuts.calls a0 m0 r1 r2 _ ?hm IM.out).mono ?_); (case hm => exact (((by repeat (first | (with_reducible first | exact HB.out | apply below_alloc | apply pw_below_drewN | apply below_drew1) | exact HB.out)) : Below w.heap.size w _).cell (p := ⟨0, 0, none⟩) HZ.out).trans HM.out); rintro e w8 ⟨v11, rfl, ho, hb⟩; refine ⟨_, rfl, ?_⟩; have n0_ := Aside0.mk (Kd.R_below (by (with_reducible repeat (first | apply Kd.R_alloc | apply Kd.R_drewN | apply Kd.R_drew)); exact HO3.out) hb); have n1_ := Aside0.mk (Kd.R_below (by (with_reducible repeat (first | apply Kd.R_alloc | apply Kd.R_drewN | apply Kd.R_drew)); exact HO6.out) hb); have n2_ := Aside0.mk ho; have n3_ := Aside0.mk (below_step (by repeat (first | (with_reducible first | exact HB.out | apply below_alloc | apply pw_below_drewN | apply below_drew1) | exact HB.out)) hb); clear HO3 HO6 HB; have HO3 := n0_; have HO6 := n1_; have HO11 := n2_; have HB := n3_; clear n0_ n1_ n2_ n3_; clear ho hb; obtain ⟨A11, c11, e11⟩ := Kd.R_slice HO11.out; subst e11) | ((with_reducible refine gate_callee (f := 18) rfl ?_); refine goesL_ (some 51) rfl rfl Tryd.func18 (by kernel_rfl) rfl #[.slice A11 r1.length c11, .slice A3 r1.length c3] rfl (by (try simp only [List.map_toArray, List.map_cons, List.map_nil]); first | done | rfl | (rw [← E6.out] <;> rfl)) ?_; (with_reducible refine (laws_eqStringS.calls k _ _ r1 _ _ r1 true _ ?side1 ?side2 ?side3 ?side4 EQ.out).mono ?_); (case side1 => repeat (first | exact (Kd.R_reads' HO11.out).2.2 | (with_reducible refine Kd.C_alloc ?_ _) | (with_reducible refine Kd.C_drewN ?_ _) | (with_reducible refine Kd.C_drew ?_))); (case side2 => exact (Kd.R_reads' HO11.out).2.1); (case side3 => repeat (first | exact (Kd.R_reads' HO3.out).2.2 | (with_reducible refine Kd.C_alloc ?_ _) | (with_reducible refine Kd.C_drewN ?_ _) | (with_reducible refine Kd.C_drew ?_))); (case side4 => exact (Kd.R_reads' HO3.out).2.1); rintro e w' ⟨rfl, ⟨nd, rfl⟩⟩; refine ⟨_, rfl, ?_⟩) | ((with_reducible refine gate_callee (f := 27) rfl ?_); refine goesL_ (some 60) rfl rfl Tryd.func27 (by kernel_rfl) rfl #[.slice A6 r'.length c6, .int .i64 1] rfl (by (try simp only [List.map_toArray, List.map_cons, List.map_nil]); first | done | rfl | (rw [← E6.out] <;> rfl)) ?_; (with_reducible refine (laws_heldStringS.calls k _ _ r' 1 m _ ?side1 ?side2 HS.out).mono ?_); (case side1 => repeat (first | exact (Kd.R_reads' HO6.out).2.2 | (with_reducible refine Kd.C_alloc ?_ _) | (with_reducible refine Kd.C_drewN ?_ _) | (with_reducible refine Kd.C_drew ?_))); (case side2 => (rw [← E6.out]; exact (Kd.R_reads' HO6.out).2.1)); rintro e w7 ⟨rfl, hb⟩; refine ⟨_, rfl, ?_⟩; have n0_ := Aside0.mk (Kd.R_below (by (with_reducible repeat (first | apply Kd.R_alloc | apply Kd.R_drewN | apply Kd.R_drew)); exact HO3.out) hb); have n1_ := Aside0.mk (Kd.R_below (by (with_reducible repeat (first | apply Kd.R_alloc | apply Kd.R_drewN | apply Kd.R_drew)); exact HO6.out) hb); have n2_ := Aside0.mk (below_step (by repeat (first | (with_reducible first | exact HB.out | apply below_alloc | apply pw_below_drewN | apply below_drew1) | exact HB.out)) hb); clear HO3 HO6 HB; have HO3 := n0_; have HO6 := n1_; have HB := n2_; clear n0_ n1_ n2_; clear hb))
    go_ret
    exact ⟨rfl, (by repeat (first | (with_reducible first | exact HB.out | apply below_alloc | apply pw_below_drewN | apply below_drew1) | exact HB.out))⟩
theorem laws_FnExactParseNuts.rounds (a0 : ByteArray) (r1 : List ByteArray) (r2 : Bool) (m : Int) (r' : List ByteArray) (h : ∃ k, ParseOk k a0 r1 r2 m r') : ∃ k, laws_FnExactParseNuts.f k a0 = some true := by
  obtain ⟨k, h⟩ := h
  refine ⟨k, ?_⟩
  unfold laws_FnExactParseNuts.f
  by_cases c : (a0.size : Int) > 1048576
  · rw [if_pos c]
  · rw [if_neg c, if_pos ⟨r1, r2, m, r', h⟩]
end Go.Proofs.YthfmfeghipjpdaaDoor.P
