/- Small facts on numbers: the wrap of what fits; the tests of bounds. | slices.Clone of a list of numbers: what the call comes to. Condition: the slice reads as the list. | The strips of a bar, cut in every way, and the sum of numbers: plain words for impl.strips. Conditions: as each states. | impl.strips' literal: what its calls come to. Conditions: as each states. | The strips of a bar: the first best of all cuts, and the greedy search for it: plain laws. Conditions: as each states. | impl.strips: what the call comes to. Conditions: as it states. -/
import Derived.Test.YtedpdfmaccoinaaDoorPx2
import Derived.Test.YtedpdfmaccoinaaDoorPx8
import Derived.Test.YtedpdfmaccoinaaDoorPx0
import Derived.Test.YtedpdfmaccoinaaDoorHShelf
import Derived.Test.YtedpdfmaccoinaaDoorOAreNuts
import Derived.Test.YtedpdfmaccoinaaDoorPx49
import Derived.Deep.AppendLies
import Derived.Deep.RegionHeld3
import Derived.Deep.RegionLaw
import Derived.BigRegion
import Derived.Lib.Hide
import Derived.Laws.EntriesVeiled
namespace Go.Proofs.YtedpdfmaccoinaaDoor.Pure
open Go.RowKit Go.Proofs.YtedpdfmaccoinaaDoor.P Go.Proofs.YtedpdfmaccoinaaDoorW.PrintWords Go.Proofs.YtedpdfmaccoinaaDoorW.PrintLast
theorem w64 {x : Int} (h0 : -9223372036854775808 ≤ x) (h1 : x ≤ 9223372036854775807) : wrap64 x = x := by
  unfold wrap64
  omega
theorem wf64 {x : Int} (h : (Lit.int .i64 x).wf = true) : -9223372036854775808 ≤ x ∧ x ≤ 9223372036854775807 := by
  simp [Lit.wf, IntKind.min, IntKind.max, IntKind.signed, IntKind.bits] at h
  omega
theorem l1In_some (a lo hi : Int) : spec_l1In.f a lo hi = some (decide (lo ≤ a ∧ a ≤ hi)) := by
  unfold spec_l1In.f
  by_cases h : a ≥ lo
  · rw [if_pos h]
    simp [show lo ≤ a from h]
  · rw [if_neg h]
    simp [show ¬ lo ≤ a from h]
theorem within_some (a lo hi : Int) : impl_within.f a lo hi = some (decide (lo ≤ a ∧ a ≤ hi)) := by
  unfold impl_within.f
  by_cases h : lo ≤ a
  · rw [if_pos h]
    simp [h]
  · rw [if_neg h]
    simp [h]
theorem rd_get (l : List Int) (i : Nat) (v : Int) (h : l[i]? = some v) : rd l (i : Int) = v := by
  unfold rd
  simp [h]
theorem rd_lt (l : List Int) (i : Nat) (h : i < l.length) : rd l (i : Int) = l[i] := rd_get l i _ (List.getElem?_eq_getElem h)
/-- A value that is there already, handed on (the rest stays folded). -/
theorem ev_val {α β : Type} {o : Option α} {a : α} {f : Nat → α → Option β} {r : β} (h : o = some a) (k : Ev (fun n => f n a) r) : Ev (fun n => o.bind (f n)) r := by
  subst h
  exact k
theorem ev_if_pos {β : Type} {c : Prop} [Decidable c] {f g : Nat → Option β} {r : β} (h : c) (k : Ev f r) : Ev (fun n => if c then f n else g n) r := by
  simp only [if_pos h]
  exact k
theorem ev_if_neg {β : Type} {c : Prop} [Decidable c] {f g : Nat → Option β} {r : β} (h : ¬ c) (k : Ev g r) : Ev (fun n => if c then f n else g n) r := by
  simp only [if_neg h]
  exact k
end Go.Proofs.YtedpdfmaccoinaaDoor.Pure

namespace Go.Proofs.YtedpdfmaccoinaaDoor.P
open Go.RowKit Go.Proofs.YtedpdfmaccoinaaDoorW.PrintWords Go.Proofs.YtedpdfmaccoinaaDoorW.PrintLast Go.Proofs.YtedpdfmaccoinaaDoorW.PrintMore
def slices_Clone_int_int.f (l0 : List Int) : Option (List Int) := if l0.length ≤ 17592186044416 then some l0 else none
theorem slices_Clone_int_int.calls (A0 : Option Addr) (c0 : Nat) (l0 : List Int) (r : List Int) (w : World) (hr0 : Kd.C (Kd.int .i64) w A0 l0.length l0) (hc0 : l0.length ≤ c0) (h : slices_Clone_int_int.f l0 = some r) :
    Calls Tryd.prog 70 #[.slice A0 l0.length c0] w fun e w' => ∃ v0_ : Value, e = .returned (v0_) ∧ Kd.R (Kd.int .i64) 3 w' w.heap.size (fun _ => True) v0_ r ∧ Below w.heap.size w w' := by
  unfold slices_Clone_int_int.f at h
  by_cases hl : l0.length ≤ 17592186044416
  · rw [if_pos hl] at h
    cases h
    by_cases hp : 0 < l0.length
    · obtain ⟨b, off, rfl, hbl, hc⟩ := Open.C_at hr0 hp
      refine (Tryd.slices_Clone_int b off l0.length c0 l0 w (Nat.le_refl _) (by omega) (fun j hj => ?_)).mono ?_
      · rw [hc j hj, getElem!_pos l0 j hj, List.getD_eq_getElem?_getD, List.getElem?_eq_getElem hj]
        rfl
      · rintro e w' ⟨v', rfl, ho, _, hb⟩
        rw [List.take_length] at ho
        exact ⟨v', rfl, Kd.R_of_own ho (fun _ _ => trivial), hb⟩
    · have hn : l0 = [] := List.eq_nil_of_length_eq_zero (by omega)
      subst hn
      cases A0 with
      | none =>
        refine (Tryd.slices_Clone_int_nil 0 c0 w).mono ?_
        rintro e w' ⟨rfl, rfl⟩
        exact ⟨_, rfl, Kd.R_nil _ _ _ _ _, Below.refl _ _⟩
      | some a =>
        refine (Tryd.slices_Clone_int_zero a c0 w).mono ?_
        rintro e w' ⟨v', rfl, ho, _, hb⟩
        exact ⟨v', rfl, Kd.R_of_own (xs := ([] : List Int)) ho (fun _ _ => trivial), hb⟩
  · rw [if_neg hl] at h
    cases h
end Go.Proofs.YtedpdfmaccoinaaDoor.P

namespace Go.Proofs.YtedpdfmaccoinaaDoor.Pure
open Go.RowKit Go.Proofs.YtedpdfmaccoinaaDoor.P Go.Proofs.YtedpdfmaccoinaaDoorW.PrintWords Go.Proofs.YtedpdfmaccoinaaDoorW.PrintLast Go.Proofs.YtedpdfmaccoinaaDoorW.PrintMore
set_option linter.unusedVariables false
set_option linter.unusedSimpArgs false
def isum : List Int → Int
  | [] => 0
  | x :: xs => x + isum xs
def Sml (l : List Int) : Prop := l.length ≤ 8 ∧ ∀ x ∈ l, 0 ≤ x ∧ x ≤ 1000
theorem isum_bd : ∀ (l : List Int), (∀ x ∈ l, 0 ≤ x ∧ x ≤ 1000) → 0 ≤ isum l ∧ isum l ≤ 1000 * (l.length : Int)
  | [], _ => ⟨by decide, by decide⟩
  | x :: xs, h => by
    have h1 := h x (by simp)
    have h2 := isum_bd xs (fun y hy => h y (by simp [hy]))
    unfold isum
    simp only [List.length_cons]
    omega
theorem Sml.bd {l : List Int} (h : Sml l) : 0 ≤ isum l ∧ isum l ≤ 8000 := by
  have h1 := isum_bd l h.2
  have h2 := h.1
  omega
theorem Sml.sub {l k : List Int} (h : Sml l) (hl : k.length ≤ l.length) (hs : ∀ x ∈ k, x ∈ l) : Sml k := ⟨Nat.le_trans hl h.1, fun x hx => h.2 x (hs x hx)⟩
def seg (cs : List Int) (i m : Nat) : List Int := (cs.take (i + m)).drop i
theorem seg_len (cs : List Int) (i m : Nat) (h : i + m ≤ cs.length) : (seg cs i m).length = m := by
  unfold seg
  rw [List.length_drop, List.length_take]
  omega
theorem Sml.seg {cs : List Int} (h : Sml cs) (i m : Nat) : Sml (seg cs i m) := by
  refine h.sub ?_ (fun x hx => List.mem_of_mem_take (List.mem_of_mem_drop hx))
  unfold Pure.seg
  rw [List.length_drop, List.length_take]
  omega
theorem sum_l0 (l : List Int) (h : Sml l) : ∀ (d j : Nat) (acc : Int), j + d = l.length → 0 ≤ acc → acc ≤ 1000 * (j : Int) → Ev (fun k => impl_sum.l0 k acc l (l.length : Int) (j : Int)) (acc + isum (l.drop j)) := by
  intro d
  induction d with
  | zero =>
    intro j acc hj h0 h1
    rw [List.drop_of_length_le (by omega)]
    refine Ev.step (f := fun _ => some (acc + isum [])) (fun k => ?_) (Ev.now _)
    simp only [impl_sum.l0]
    rw [if_neg (by omega)]
    simp [isum]
  | succ d ih =>
    intro j acc hj h0 h1
    have h8 := h.1
    have hlt : j < l.length := by omega
    have hm := h.2 l[j] (List.getElem_mem hlt)
    have hr : rd l (j : Int) = l[j] := rd_lt _ _ hlt
    rw [List.drop_eq_getElem_cons hlt, show isum (l[j] :: l.drop (j + 1)) = l[j] + isum (l.drop (j + 1)) from rfl, ← Int.add_assoc]
    refine Ev.step (fun k => ?_) (ih (j + 1) (acc + l[j]) (by omega) (by omega) (by omega))
    simp only [impl_sum.l0]
    rw [if_pos (by omega), if_pos (by omega), if_pos (by omega), hr, w64 (by omega) (by omega), w64 (by omega) (by omega)]
    rfl
theorem sum_ev {l : List Int} (h : Sml l) : Ev (fun k => impl_sum.f k l) (isum l) := by
  have := sum_l0 l h l.length 0 0 (by omega) (by omega) (by omega)
  rw [Int.zero_add, List.drop_zero] at this
  exact this
def mn2 (x y : Int) : Int := if y < x then y else x
def cutS (cs : List Int) : Nat → List Int → Nat → Int → List Int × Int → List Int × Int
  | 0, ws, fr, po, st => if st.2 < mn2 po (isum (seg cs fr (cs.length - fr))) then (ws ++ [((cs.length - fr : Nat) : Int)], mn2 po (isum (seg cs fr (cs.length - fr)))) else st
  | r + 1, ws, fr, po, st => (List.range (cs.length - (r + 1) - fr)).foldl (fun st (i : Nat) => cutS cs r (ws ++ [(i : Int) + 1]) (fr + (i + 1)) (mn2 po (isum (seg cs fr (i + 1)))) st) st
def cutUp (cs : List Int) (r : Nat) (ws : List Int) (fr : Nat) (po : Int) (st : List Int × Int) (n : Nat) : List Int × Int := (List.range n).foldl (fun st (i : Nat) => cutS cs r (ws ++ [(i : Int) + 1]) (fr + (i + 1)) (mn2 po (isum (seg cs fr (i + 1)))) st) st
theorem cutUp_succ (cs : List Int) (r : Nat) (ws : List Int) (fr : Nat) (po : Int) (st : List Int × Int) (n : Nat) : cutUp cs r ws fr po st (n + 1) = cutS cs r (ws ++ [(n : Int) + 1]) (fr + (n + 1)) (mn2 po (isum (seg cs fr (n + 1)))) (cutUp cs r ws fr po st n) := by
  unfold cutUp
  rw [List.range_succ, List.foldl_append]
  rfl
theorem cutS_succ (cs : List Int) (r : Nat) (ws : List Int) (fr : Nat) (po : Int) (st : List Int × Int) : cutS cs (r + 1) ws fr po st = cutUp cs r ws fr po st (cs.length - (r + 1) - fr) := rfl
theorem C_seg {w : World} {b off n : Nat} {cs : List Int} (h : Kd.C (Kd.int .i64) w (some ⟨b, off, none⟩) n cs) (i m : Nat) (him : i + m ≤ n) : Kd.C (Kd.int .i64) w (some ⟨b, off + i, none⟩) m (seg cs i m) := by
  have hl : cs.length = n := h.1
  refine ⟨seg_len cs i m (by omega), by have := h.2.1; omega, fun hm => ⟨_, rfl, fun j p hp => ?_⟩⟩
  obtain ⟨ad, he, hc⟩ := h.2.2 (by omega)
  cases he
  have hj : j < m := by
    have := (List.getElem?_eq_some_iff.1 hp).1
    rwa [seg_len cs i m (by omega)] at this
  have hp' : cs[i + j]? = some p := by
    unfold seg at hp
    rw [List.getElem?_drop, List.getElem?_take_of_lt (by omega)] at hp
    exact hp
  obtain ⟨c, h1, h2, h3⟩ := hc (i + j) p hp'
  refine ⟨c, h1, h2, fun k u hu => ?_⟩
  have := h3 k u hu
  have e : ((⟨b, off + i, none⟩ : Addr).add (j * (Kd.int .i64).sz + k)) = ((⟨b, off, none⟩ : Addr).add ((i + j) * (Kd.int .i64).sz + k)) := by
    have : (Kd.int .i64).sz = 1 := rfl
    rw [this]
    unfold Addr.add
    by_cases z : j * 1 + k = 0
    · have z1 : j = 0 := by omega
      have z2 : k = 0 := by omega
      subst z1 z2
      by_cases z3 : i = 0
      · subst z3; rfl
      · simp [z3]
    · have : ¬ (i + j) * 1 + k = 0 := by omega
      have hjm : j * 1 + k = j + k := by omega
      have hjn : (i + j) * 1 + k = i + j + k := by omega
      rw [hjm] at z ⊢
      rw [hjn] at this ⊢
      simp only [Option.map_none, Addr.mk.injEq, true_and, z, this, if_false, and_true]
      try omega
  rw [e]
  exact this
end Go.Proofs.YtedpdfmaccoinaaDoor.Pure

namespace Go.Proofs.YtedpdfmaccoinaaDoor.P
open Go.RowKit Go.Proofs.YtedpdfmaccoinaaDoorW.PrintWords Go.Proofs.YtedpdfmaccoinaaDoorW.PrintLast Go.Proofs.YtedpdfmaccoinaaDoorW.PrintMore Go.Proofs.YtedpdfmaccoinaaDoor.Pure
attribute [local go_sem] max2_int min2_int max_two min_two
set_option linter.unusedVariables false
set_option linter.unusedSimpArgs false
theorem clone_someT (l : List Int) (h : l.length ≤ 1000) : slices_Clone_int_int.f l = some l := by
  unfold slices_Clone_int_int.f
  rw [if_pos (by omega)]
theorem one_newsT {W : World} {g : Nat} {x : Value} (hc : W.cell? ⟨g, 0, none⟩ = some x) : ∀ (j : Nat) u, [x][j]? = some u → W.cell? ((⟨g, 0, none⟩ : Addr).add j) = some u := by
  intro j u hj
  match j, hj with
  | 0, hj =>
    simp at hj
    subst hj
    simpa [Addr.add] using hc
  | j + 1, hj => simp at hj
theorem new_cellT (W : World) (x : Value) (t : TypeId) : (W.alloc (.cells #[x] t)).cell? ⟨W.heap.size, 0, none⟩ = some x := by simp
theorem infoIT : ∃ i, Tryd.prog.info? 3 = some i ∧ i.zero = some (.int .i64 0) ∧ i.size = 1 ∧ i.bytes = 8 := by
  obtain ⟨i, h1, h2⟩ := Option.map_eq_some_iff.1 info3
  simp only [Prod.mk.injEq] at h2
  exact ⟨i, h1, h2.1, h2.2.1, h2.2.2⟩
theorem sum_call {l : List Int} {m : Nat} (hm : l.length = m) (ks : Nat) (A : Option Addr) (c : Nat) (su : Int) (w : World) (hr : Kd.C (Kd.int .i64) w A m l) (hc : m ≤ c) (h : impl_sum.f ks l = some su) :
    Calls Tryd.prog 69 #[.slice A m c] w fun e w' => e = .returned (.int .i64 su) ∧ Drawn0 w w' := by
  subst hm
  exact impl_sum.calls ks A c l su w hr hc h
/-- What the boxes hold. -/
structure StEnv (n : Nat) (sh : Int) (ad : Addr) (c0 Bs Bc Bm Bb Bf N0 : Nat) (w0 : World) (st : List Int × Int) (vb : Value) (W : World) : Prop where
  bs : W.heap[Bs]? = some (.cells #[.int .i64 sh] 3 (0, 0))
  bc : W.heap[Bc]? = some (.cells #[.slice (some ad) n c0] 37 (0, 0))
  bm : W.heap[Bm]? = some (.cells #[.int .i64 st.2] 3 (0, 0))
  bb : W.heap[Bb]? = some (.cells #[vb] 37 (0, 0))
  bf : W.heap[Bf]? = some (.cells #[.func (.func 68) #[] #[.pointer (some ⟨Bs, 0, none⟩), .pointer (some ⟨Bc, 0, none⟩), .pointer (some ⟨Bm, 0, none⟩), .pointer (some ⟨Bb, 0, none⟩), .pointer (some ⟨Bf, 0, none⟩)]] 87 (0, 0))
  rb : Kd.R (Kd.int .i64) 3 W N0 (fun _ => True) vb st.1
  nn : N0 ≤ W.heap.size
  bl : Below w0.heap.size w0 W
/-- Which boxes are which. -/
structure StFar (Bs Bc Bm Bb Bf b0 N0 : Nat) : Prop where
  sm : Bs ≠ Bm
  sb : Bs ≠ Bb
  cm : Bc ≠ Bm
  cb : Bc ≠ Bb
  fm : Bf ≠ Bm
  fb : Bf ≠ Bb
  mb : Bm ≠ Bb
  mN : Bm < N0
  bN : Bb < N0
  m0 : b0 ≤ Bm
  b0b : b0 ≤ Bb
  n0 : b0 ≤ N0
theorem gate_app {P : Program} {ops : Array Oper} {o : Oper} {a : Act} {w : World} {K : Act → World → Prop} {Q : Exit → Act → World → Prop} {E : Prop} (s x : Operand) (t : TypeId) (ho : o.op = .call { callee := .builtin .append, args := #[s, x], argTypes := #[t, t] }) (h : if Region.wanted o (yielded ops a.tmps) = true then Oper.wp P o a w K Q else E) : if Region.wanted o (yielded ops a.tmps) = true then Oper.wp P o a w K Q else E := h
def TwoB (Bm Bb : Nat) : Nat → Prop := fun k => k = Bm ∨ k = Bb
section
variable {n : Nat} {sh : Int} {ad : Addr} {c0 Bs Bc Bm Bb Bf b0 N0 : Nat} {w0 W W' : World} {st : List Int × Int} {vb : Value}
theorem StEnv.below (h : StEnv n sh ad c0 Bs Bc Bm Bb Bf N0 w0 st vb W) (hn : w0.heap.size ≤ N0) (hb : Below W.heap.size W W') : StEnv n sh ad c0 Bs Bc Bm Bb Bf N0 w0 st vb W' :=
  ⟨blk_below h.bs hb, blk_below h.bc hb, blk_below h.bm hb, blk_below h.bb hb, blk_below h.bf hb, Kd.R_below h.rb hb, Nat.le_trans h.nn hb.size, h.bl.trans (hb.mono (Nat.le_trans hn h.nn))⟩
theorem R_two (f : StFar Bs Bc Bm Bb Bf b0 N0) {v : Value} {xs : List Int} (h : Kd.R (Kd.int .i64) 3 W N0 (fun _ => True) v xs) (hk : Kept W W' (TwoB Bm Bb)) : Kd.R (Kd.int .i64) 3 W' N0 (fun _ => True) v xs :=
  Kd.R_mono (Kd.R_kept (Kd.R_bound h) hk (fun k hk e => by
    have h1 := hk.2.1
    have h2 := f.mN
    have h3 := f.bN
    rcases e with e | e <;> omega)) (fun _ _ => trivial)
theorem StEnv.put (h : StEnv n sh ad c0 Bs Bc Bm Bb Bf N0 w0 st vb W) (f : StFar Bs Bc Bm Bb Bf w0.heap.size N0) {v : Value} {xs : List Int} {p : Int} (hr : Kd.R (Kd.int .i64) 3 W N0 (fun _ => True) v xs) :
    StEnv n sh ad c0 Bs Bc Bm Bb Bf N0 w0 (xs, p) v ((W.setCell ⟨Bb, 0, none⟩ v).setCell ⟨Bm, 0, none⟩ (.int .i64 p)) ∧ Kept W ((W.setCell ⟨Bb, 0, none⟩ v).setCell ⟨Bm, 0, none⟩ (.int .i64 p)) (TwoB Bm Bb) := by
  have hk : Kept W ((W.setCell ⟨Bb, 0, none⟩ v).setCell ⟨Bm, 0, none⟩ (.int .i64 p)) (TwoB Bm Bb) := Kept.setCell (Kept.setCell (Kept.refl W _) (p := ⟨Bb, 0, none⟩) (.inl (.inr rfl)) _) (p := ⟨Bm, 0, none⟩) (.inl (.inl rfl)) _
  exact ⟨⟨blk_far (blk_far h.bs (p := ⟨Bb, 0, none⟩) f.sb _) (p := ⟨Bm, 0, none⟩) f.sm _, blk_far (blk_far h.bc (p := ⟨Bb, 0, none⟩) f.cb _) (p := ⟨Bm, 0, none⟩) f.cm _,
    blk_put (cs := #[.int .i64 st.2]) (blk_far h.bm (p := ⟨Bb, 0, none⟩) f.mb _) 0 _ rfl,
    blk_far (blk_put (cs := #[vb]) (cs' := #[v]) h.bb 0 _ rfl) (p := ⟨Bm, 0, none⟩) (Ne.symm f.mb) _,
    blk_far (blk_far h.bf (p := ⟨Bb, 0, none⟩) f.fb _) (p := ⟨Bm, 0, none⟩) f.fm _, R_two f hr hk, Nat.le_trans h.nn hk.1, below_set (below_set h.bl f.b0b) f.m0⟩, hk⟩
end
set_option maxHeartbeats 16000000 in
set_option maxRecDepth 100000 in
theorem strip_any (cs : List Int) (n : Nat) (hn : cs.length = n) (sh : Int) (Ab Ao c0 Bs Bc Bm Bb Bf N0 : Nat) (w0 : World) (hsml : Sml cs) (hc0 : n ≤ c0) (hcol : Kd.C (Kd.int .i64) w0 (some ⟨Ab, Ao, none⟩) n cs) (F : StFar Bs Bc Bm Bb Bf w0.heap.size N0) :
    ∀ (r : Nat) (rows : List Int) (vr : Value) (fr : Nat) (po : Int) (st : List Int × Int) (vb : Value) (W : World), StEnv n sh ⟨Ab, Ao, none⟩ c0 Bs Bc Bm Bb Bf N0 w0 st vb W → Kd.R (Kd.int .i64) 3 W N0 (fun _ => True) vr rows → sh = ((rows.length + r + 1 : Nat) : Int) → rows.length + r + 1 ≤ 8 → fr + r + 1 ≤ n →
    Calls Tryd.prog 68 #[vr, .int .i64 (fr : Int), .int .i64 po, .pointer (some ⟨Bs, 0, none⟩), .pointer (some ⟨Bc, 0, none⟩), .pointer (some ⟨Bm, 0, none⟩), .pointer (some ⟨Bb, 0, none⟩), .pointer (some ⟨Bf, 0, none⟩)] W fun e W' => e = .returned (.tuple #[]) ∧ ∃ vb', StEnv n sh ⟨Ab, Ao, none⟩ c0 Bs Bc Bm Bb Bf N0 w0 (cutS cs r rows fr po st) vb' W' ∧ Kept W W' (TwoB Bm Bb) := by
  intro r
  induction r with
  | zero =>
    intro rows vr fr po st vb W he hr hsh hr8 hfr
    obtain ⟨Ar, cr, er⟩ := Kd.R_slice hr
    subst er
    have hn8 : n ≤ 8 := by have := hsml.1; omega
    obtain ⟨ks, hks⟩ := sum_ev (hsml.seg fr (n - fr))
    have HSU := Aside0.mk (hks ks (Nat.le_refl _))
    have hleft : wrap64 (sh - (rows.length : Int)) = 1 := by rw [hsh, w64 (by omega) (by omega)]; omega
    have hlen : wrap64 ((n : Int) - (fr : Int)) = ((n - fr : Nat) : Int) := by rw [w64 (by omega) (by omega)]; omega
    have hlenW : IntKind.i64.wrap ((n : Int) - (fr : Int)) = ((n - fr : Nat) : Int) := by
      rw [i64_w]
      exact hlen
    have hsl := seg_len cs fr (n - fr) (by omega)
    have hfn : (fr : Int) ≤ (n : Int) := by omega
    have hfn' : fr ≤ n := by omega
    have hfz : (0 : Int) ≤ (fr : Int) := by omega
    have HE := Aside0.mk he
    have HR := Aside0.mk hr
    have HK := Aside0.mk (Kept.refl W (TwoB Bm Bb))
    have hcs : W.cell? ⟨Bs, 0, none⟩ = some (.int .i64 sh) := (blk_cell he.bs 0).trans rfl
    have hcc : W.cell? ⟨Bc, 0, none⟩ = some (.slice (some ⟨Ab, Ao, none⟩) n c0) := (blk_cell he.bc 0).trans rfl
    have hcm : W.cell? ⟨Bm, 0, none⟩ = some (.int .i64 st.2) := (blk_cell he.bm 0).trans rfl
    rw [show cutS cs 0 rows fr po st = if st.2 < mn2 po (isum (seg cs fr (n - fr))) then (rows ++ [((n - fr : Nat) : Int)], mn2 po (isum (seg cs fr (n - fr)))) else st by unfold cutS; rw [hn]]
    have hmn : (if isum (seg cs fr (n - fr)) < po then isum (seg cs fr (n - fr)) else po) = mn2 po (isum (seg cs fr (n - fr))) := rfl
    generalize isum (seg cs fr (n - fr)) = su at HSU hmn ⊢
    by_cases hgt : st.2 < mn2 po su
    · have e1 : decide (st.2 < mn2 po su) = true := decide_eq_true hgt
      rw [if_pos hgt]
      generalize mn2 po su = mi at e1 hmn ⊢
      clear he hr hks hsh
      go_enter Tryd.func68, Tryd.ntmps68
      go_wp2_with (first | (go_at_call 69; refine (sum_call hsl ks (some ⟨Ab, Ao + fr, none⟩) (c0 - fr) su _ (Kd.C_below (C_seg hcol fr (n - fr) (by omega)) (show Below w0.heap.size w0 _ from HE.out.bl)) (by omega) HSU.out).mono ?_; rintro e w2 ⟨rfl, hd⟩; have n0_ := Aside0.mk (HE.out.below F.n0 hd.below); have n1_ := Aside0.mk (HK.out.below hd.below); have n2_ := Aside0.mk (Kd.R_below HR.out hd.below); clear HE HK HR; have HE := n0_; have HK := n1_; have HR := n2_; clear n0_ n1_ n2_ hd; have hcm2 : w2.cell? ⟨Bm, 0, none⟩ = some (.int .i64 st.2) := (blk_cell HE.out.bm 0).trans rfl; have hcc2 : w2.cell? ⟨Bc, 0, none⟩ = some (.slice (some ⟨Ab, Ao, none⟩) n c0) := (blk_cell HE.out.bc 0).trans rfl))
      obtain ⟨i0, hi0, hz0, hz1, hz2⟩ := infoIT
      have hr7 : rows.length ≤ 100 := by omega
      go_region_law (first | (go_simp; go_at_call 70; refine (slices_Clone_int_int.calls _ _ rows rows _ ?s1 ?s2 (clone_someT rows (by omega))).mono ?_; (case s1 => repeat (first | exact (Kd.R_reads' HR.out).2.2 | (with_reducible refine Kd.C_alloc ?_ _) | (with_reducible refine Kd.C_drewN ?_ _) | (with_reducible refine Kd.C_drew ?_))); (case s2 => exact (Kd.R_reads' HR.out).2.1); rintro e w3 ⟨vf, rfl, hf, hb⟩; have HW := Aside0.mk (below_step (by repeat (first | (with_reducible first | exact (Below.refl w2.heap.size w2) | apply below_alloc | apply pw_below_drewN | apply below_drew1) | exact (Below.refl w2.heap.size w2)) : Below w2.heap.size w2 _) hb : Below w2.heap.size w2 w3); have HF := Aside0.mk (Kd.R_lower hf (below_size (by repeat (first | (with_reducible first | exact (Below.refl w2.heap.size w2) | apply below_alloc | apply pw_below_drewN | apply below_drew1) | exact (Below.refl w2.heap.size w2)) : Below w2.heap.size w2 _)) : Kd.R (Kd.int .i64) 3 w3 w2.heap.size (fun _ => True) vf rows); (try have hbx := (hb.cell (p := ⟨w2.heap.size, 0, none⟩) (by simp)).trans (new_cellT w2 (.int .i64 (((n - fr : Nat) : Int))) 3)); have hcc3 : w3.cell? ⟨Bc, 0, none⟩ = some (.slice (some ⟨Ab, Ao, none⟩) n c0) := (HW.out.cell (p := ⟨Bc, 0, none⟩) (World.block_lt_of_cell? w2 _ hcc2)).trans hcc2; have hcc3a : ∀ o : Obj, (w3.alloc o).cell? ⟨Bc, 0, none⟩ = some (.slice (some ⟨Ab, Ao, none⟩) n c0) := fun o => ((below_alloc (Below.refl w3.heap.size w3) o).cell (p := ⟨Bc, 0, none⟩) (World.block_lt_of_cell? w3 _ hcc3)).trans hcc3; clear hf hb) | (refine step_append_lies _ rfl (.tmp 29) (.tmp 34) 37 rfl w2.heap.size 3 i0 (.int .i64 0) 1 8 Tryd.underlying37 hi0 hz0 hz1 hz2 rfl (by decide) vf rows.length (encs (Value.int .i64) rows) rfl (Kd.own_of_R (enc := Value.int .i64) (h1 := fun _ => rfl) (by (with_reducible repeat (first | apply Kd.R_alloc | apply Kd.R_drewN | apply Kd.R_drew)); exact HF.out)) ⟨_, 0, none⟩ 1 1 [.int .i64 (((n - fr : Nat) : Int))] rfl rfl (one_newsT (by first | exact hbx | exact new_cellT _ _ _)) (by simp [Value.oneCell']) (by decide) (by simp only [maxLen]; omega) (by omega) (below_size (by repeat (first | (with_reducible first | exact HW.out | apply below_alloc | apply pw_below_drewN | apply below_drew1) | exact HW.out) : Below w2.heap.size w2 _)) _ rfl ?_; intro g4 cap4 w4 hown4 hg4 hat4 hlt4;  have hb4 : Below w2.heap.size w2 w4 := pw_below_grown (by repeat (first | (with_reducible first | exact HW.out | apply below_alloc | apply pw_below_drewN | apply below_drew1) | exact HW.out) : Below w2.heap.size w2 _) _ (below_size (by repeat (first | (with_reducible first | exact HW.out | apply below_alloc | apply pw_below_drewN | apply below_drew1) | exact HW.out) : Below w2.heap.size w2 _)) hg4 (fun k hk => Kd.R_base HF.out k hk); have HV := Aside0.mk (Kd.R_lower (Kd.R_of_own (enc := Value.int .i64) (h1 := fun _ => rfl) (xs := rows ++ [((n - fr : Nat) : Int)]) (by simpa [encs] using hown4) (fun _ _ => trivial)) HE.out.nn : Kd.R (Kd.int .i64) 3 w4 N0 (fun _ => True) (.slice (some ⟨g4, 0, none⟩) (rows.length + 1) cap4) (rows ++ [((n - fr : Nat) : Int)])); have HE4 := Aside0.mk (HE.out.below F.n0 hb4); have HK4 := Aside0.mk (HK.out.below hb4); have HR4 := Aside0.mk (Kd.R_below HR.out hb4); have hcb4 : w4.cell? ⟨Bb, 0, none⟩ = some vb := (blk_cell HE4.out.bb 0).trans rfl; have hfb4 : w4.frozen? ⟨Bb, 0, none⟩ = false := blk_frozen HE4.out.bb 0; have hcm4 : w4.cell? ⟨Bm, 0, none⟩ = some (.int .i64 st.2) := (blk_cell HE4.out.bm 0).trans rfl; have hfm4 : w4.frozen? ⟨Bm, 0, none⟩ = false := blk_frozen HE4.out.bm 0; have hmb := F.mb; have hmb' := Ne.symm F.mb; clear hown4 hg4 hat4 hlt4 hb4))
      all_goals go_wp2
      all_goals (refine bodyPost_ret (results_none rfl _ _ _) rfl ?_)
      all_goals exact ⟨rfl, _, (HE4.out.put F HV.out).1, HK4.out.then_ (HE4.out.put F HV.out).2 (fun _ h => .inl h)⟩
    · have e1 : decide (st.2 < mn2 po su) = false := decide_eq_false hgt
      rw [if_neg hgt]
      generalize mn2 po su = mi at e1 hmn ⊢
      clear he hr hks hsh
      go_enter Tryd.func68, Tryd.ntmps68
      go_wp2_with (first | (go_at_call 69; refine (sum_call hsl ks (some ⟨Ab, Ao + fr, none⟩) (c0 - fr) su _ (Kd.C_below (C_seg hcol fr (n - fr) (by omega)) (show Below w0.heap.size w0 _ from HE.out.bl)) (by omega) HSU.out).mono ?_; rintro e w2 ⟨rfl, hd⟩; have n0_ := Aside0.mk (HE.out.below F.n0 hd.below); have n1_ := Aside0.mk (HK.out.below hd.below); have n2_ := Aside0.mk (Kd.R_below HR.out hd.below); clear HE HK HR; have HE := n0_; have HK := n1_; have HR := n2_; clear n0_ n1_ n2_ hd; have hcm2 : w2.cell? ⟨Bm, 0, none⟩ = some (.int .i64 st.2) := (blk_cell HE.out.bm 0).trans rfl; have hcc2 : w2.cell? ⟨Bc, 0, none⟩ = some (.slice (some ⟨Ab, Ao, none⟩) n c0) := (blk_cell HE.out.bc 0).trans rfl))
      refine bodyPost_ret (results_none rfl _ _ _) rfl ?_
      exact ⟨rfl, _, HE.out, HK.out⟩
  | succ r ih =>
    intro rows vr fr po st vb W he hr hsh hr8 hfr
    obtain ⟨Ar, cr, er⟩ := Kd.R_slice hr
    subst er
    have hn8 : n ≤ 8 := by have := hsml.1; omega
    obtain ⟨lf, hlf⟩ : ∃ x : Int, ((r + 2 : Nat) : Int) = x := ⟨_, rfl⟩
    have hleft : wrap64 (sh - (rows.length : Int)) = lf := by rw [hsh, w64 (by omega) (by omega)]; omega
    have e0 : (lf == 1) = false := beq_eq_false_iff_ne.2 (by omega)
    obtain ⟨tp, htp⟩ : ∃ x : Nat, n - (r + 1) = x := ⟨_, rfl⟩
    have hb1 : wrap64 ((n : Int) - lf) = (n : Int) - lf := w64 (by omega) (by omega)
    have hb2 : wrap64 ((n : Int) - lf + 1) = (tp : Int) := by rw [w64 (by omega) (by omega)]; omega
    have hb1W : IntKind.i64.wrap ((n : Int) - lf) = (n : Int) - lf := by rw [i64_w]; exact hb1
    have hb2W : IntKind.i64.wrap ((n : Int) - lf + 1) = (tp : Int) := by rw [i64_w]; exact hb2
    have L1 := Aside0.mk hb1
    have L2 := Aside0.mk hb2
    have L3 := Aside0.mk hb1W
    have L4 := Aside0.mk hb2W
    clear hb1 hb2 hb1W hb2W
    have HE := Aside0.mk he
    have HR := Aside0.mk hr
    have HK := Aside0.mk (Kept.refl W (TwoB Bm Bb))
    have HSH := Aside0.mk hsh
    have hcs : W.cell? ⟨Bs, 0, none⟩ = some (.int .i64 sh) := (blk_cell he.bs 0).trans rfl
    rw [cutS_succ, hn, htp]
    clear he hr hsh
    obtain ⟨i0, hi0, hz0, hz1, hz2⟩ := infoIT
    go_enter Tryd.func68, Tryd.ntmps68
    go_wp2
    rw [hleft]
    clear hleft
    go_loopg [12] (tp - fr + 1) (fun kq v12 w' => ∃ (i : Nat) (vb' : Value), v12 = .int .i64 ((i : Int) + 1) ∧ Aside0 (i ≤ tp - fr) ∧ Aside0 (tp - fr + 1 - i ≤ kq) ∧ Aside0 (StEnv n sh ⟨Ab, Ao, none⟩ c0 Bs Bc Bm Bb Bf N0 w0 (cutUp cs r rows fr po st i) vb' w') ∧ Aside0 (Kept W w' (TwoB Bm Bb)) ∧ Aside0 (Kd.R (Kd.int .i64) 3 w' N0 (fun _ => True) (.slice Ar rows.length cr) rows))
    case atStart => exact ⟨0, _, rfl, ⟨Nat.zero_le _⟩, ⟨Nat.le_refl _⟩, HE, HK, HR⟩
    case round =>
      clear HE HK HR hcs
      obtain ⟨i, vb', rfl, hi, hq, HE, HK, HR⟩ := hrel
      obtain ⟨f2, hf2⟩ : ∃ x : Nat, fr + (i + 1) = x := ⟨_, rfl⟩
      have hi' := hi.out
      have ha : wrap64 ((fr : Int) + ((i : Int) + 1)) = (f2 : Int) := by rw [w64 (by omega) (by omega)]; omega
      have haW : IntKind.i64.wrap ((fr : Int) + ((i : Int) + 1)) = (f2 : Int) := by rw [i64_w]; exact ha
      have L5 := Aside0.mk ha
      have L6 := Aside0.mk haW
      clear ha haW
      have hcc : wr.cell? ⟨Bc, 0, none⟩ = some (.slice (some ⟨Ab, Ao, none⟩) n c0) := (blk_cell HE.out.bc 0).trans rfl
      have hcf : wr.cell? ⟨Bf, 0, none⟩ = some (.func (.func 68) #[] #[.pointer (some ⟨Bs, 0, none⟩), .pointer (some ⟨Bc, 0, none⟩), .pointer (some ⟨Bm, 0, none⟩), .pointer (some ⟨Bb, 0, none⟩), .pointer (some ⟨Bf, 0, none⟩)]) := (blk_cell HE.out.bf 0).trans rfl
      by_cases hlt : i < tp - fr
      · have c1 : decide ((f2 : Int) ≤ (tp : Int)) = true := decide_eq_true (by omega)
        have c2 : decide (f2 ≤ tp) = true := decide_eq_true (by omega)
        have hsl : (seg cs fr (i + 1)).length = f2 - fr := by rw [seg_len cs fr (i + 1) (by omega)]; omega
        obtain ⟨ks, hks⟩ := sum_ev (hsml.seg fr (i + 1))
        have HSU := Aside0.mk (hks ks (Nat.le_refl _))
        have HCS := Aside0.mk (show Kd.C (Kd.int .i64) w0 (some ⟨Ab, Ao + fr, none⟩) (f2 - fr) (seg cs fr (i + 1)) by rw [show f2 - fr = i + 1 by omega]; exact C_seg hcol fr (i + 1) (by omega))
        have HCap := Aside0.mk (show f2 - fr ≤ c0 - fr by omega)
        have HCU := Aside0.mk (cutUp_succ cs r rows fr po st i)
        rw [hf2] at HCU
        have hmn : (if isum (seg cs fr (i + 1)) < po then isum (seg cs fr (i + 1)) else po) = mn2 po (isum (seg cs fr (i + 1))) := rfl
        generalize isum (seg cs fr (i + 1)) = su at HSU hmn HCU
        generalize mn2 po su = mi at hmn HCU
        obtain ⟨sti, hsti⟩ : ∃ x, cutUp cs r rows fr po st i = x := ⟨_, rfl⟩
        rw [hsti] at HE HCU
        have HQ := Aside0.mk (show tp - fr + 1 - (i + 1) ≤ gk - 1 ∧ 0 < gk by have := hq.out; omega)
        have HLT := Aside0.mk hlt
        have H1 := Aside0.mk (show sh = (((rows ++ [(i : Int) + 1]).length + r + 1 : Nat) : Int) by rw [HSH.out, List.length_append, List.length_singleton]; omega)
        have H2 := Aside0.mk (show (rows ++ [(i : Int) + 1]).length + r + 1 ≤ 8 by rw [List.length_append, List.length_singleton]; omega)
        have H3 := Aside0.mk (show f2 + r + 1 ≤ n by omega)
        have k1 : (fr : Int) ≤ (f2 : Int) := by omega
        have k2 : (f2 : Int) ≤ (c0 : Int) := by omega
        have k3 : fr ≤ f2 := by omega
        have k4 : f2 ≤ c0 := by omega
        have k5 : (0 : Int) ≤ (fr : Int) := by omega
        have k6 : f2 ≤ n := by omega
        have k7 : (f2 : Int) ≤ (n : Int) := by omega
        have k8 : ¬ c0 = fr := by omega
        have hcca : ∀ o : Obj, (wr.alloc o).cell? ⟨Bc, 0, none⟩ = some (.slice (some ⟨Ab, Ao, none⟩) n c0) := fun o => ((below_alloc (Below.refl wr.heap.size wr) o).cell (p := ⟨Bc, 0, none⟩) (World.block_lt_of_cell? wr _ hcc)).trans hcc
        have hcfa : ∀ o : Obj, (wr.alloc o).cell? ⟨Bf, 0, none⟩ = some (.func (.func 68) #[] #[.pointer (some ⟨Bs, 0, none⟩), .pointer (some ⟨Bc, 0, none⟩), .pointer (some ⟨Bm, 0, none⟩), .pointer (some ⟨Bb, 0, none⟩), .pointer (some ⟨Bf, 0, none⟩)]) := fun o => ((below_alloc (Below.refl wr.heap.size wr) o).cell (p := ⟨Bf, 0, none⟩) (World.block_lt_of_cell? wr _ hcf)).trans hcf
        have hr7 : rows.length ≤ 100 := by omega
        have hs2 : wrap64 ((i : Int) + 1 + 1) = ((i + 1 : Nat) : Int) + 1 := by rw [w64 (by omega) (by omega)]; omega
        clear hlt hq hi hi' hks hsti hf2 hlf htp
        have hb1 := L1.out; have hb2 := L2.out; have hb1W := L3.out; have hb2W := L4.out; have ha := L5.out; have haW := L6.out
        go_wp2
        go_region_held3 (fun w' => w'.cell? ⟨Bf, 0, none⟩ = some (.func (.func 68) #[] #[.pointer (some ⟨Bs, 0, none⟩), .pointer (some ⟨Bc, 0, none⟩), .pointer (some ⟨Bm, 0, none⟩), .pointer (some ⟨Bb, 0, none⟩), .pointer (some ⟨Bf, 0, none⟩)]) ∧ w'.cell? ⟨Bc, 0, none⟩ = some (.slice (some ⟨Ab, Ao, none⟩) n c0)) (exact ⟨(by first | exact (blk_cell HE6.out.bf 0).trans rfl | exact (blk_cell HE4.out.bf 0).trans rfl | exact hcf3 | exact hcf3a _ | exact hcf | exact hcfa _), (by first | exact (blk_cell HE6.out.bc 0).trans rfl | exact (blk_cell HE4.out.bc 0).trans rfl | exact hcc3 | exact hcc3a _ | exact hcc | exact hcca _)⟩) (first | (go_at_call 70; refine (slices_Clone_int_int.calls _ _ rows rows _ ?s1 ?s2 (clone_someT rows (by omega))).mono ?_; (case s1 => repeat (first | exact (Kd.R_reads' HR.out).2.2 | (with_reducible refine Kd.C_alloc ?_ _) | (with_reducible refine Kd.C_drewN ?_ _) | (with_reducible refine Kd.C_drew ?_))); (case s2 => exact (Kd.R_reads' HR.out).2.1); rintro e w3 ⟨vf, rfl, hf, hb⟩; obtain ⟨Af, cf, ef⟩ := Kd.R_slice hf; subst ef; have HW := Aside0.mk (below_step (by repeat (first | (with_reducible first | exact (Below.refl wr.heap.size wr) | apply below_alloc | apply pw_below_drewN | apply below_drew1) | exact (Below.refl wr.heap.size wr)) : Below wr.heap.size wr _) hb : Below wr.heap.size wr w3); have HF := Aside0.mk (Kd.R_lower hf (below_size (by repeat (first | (with_reducible first | exact (Below.refl wr.heap.size wr) | apply below_alloc | apply pw_below_drewN | apply below_drew1) | exact (Below.refl wr.heap.size wr)) : Below wr.heap.size wr _)) : Kd.R (Kd.int .i64) 3 w3 wr.heap.size (fun _ => True) (.slice Af rows.length cf) rows); (try have hbx := (hb.cell (p := ⟨wr.heap.size, 0, none⟩) (by simp)).trans (new_cellT wr (.int .i64 ((i : Int) + 1)) 3)); have hcc3 : w3.cell? ⟨Bc, 0, none⟩ = some (.slice (some ⟨Ab, Ao, none⟩) n c0) := (HW.out.cell (p := ⟨Bc, 0, none⟩) (World.block_lt_of_cell? wr _ hcc)).trans hcc; have hcc3a : ∀ o : Obj, (w3.alloc o).cell? ⟨Bc, 0, none⟩ = some (.slice (some ⟨Ab, Ao, none⟩) n c0) := fun o => ((below_alloc (Below.refl w3.heap.size w3) o).cell (p := ⟨Bc, 0, none⟩) (World.block_lt_of_cell? w3 _ hcc3)).trans hcc3; have hcf3 : w3.cell? ⟨Bf, 0, none⟩ = some (.func (.func 68) #[] #[.pointer (some ⟨Bs, 0, none⟩), .pointer (some ⟨Bc, 0, none⟩), .pointer (some ⟨Bm, 0, none⟩), .pointer (some ⟨Bb, 0, none⟩), .pointer (some ⟨Bf, 0, none⟩)]) := (HW.out.cell (p := ⟨Bf, 0, none⟩) (World.block_lt_of_cell? wr _ hcf)).trans hcf; have hcf3a : ∀ o : Obj, (w3.alloc o).cell? ⟨Bf, 0, none⟩ = some (.func (.func 68) #[] #[.pointer (some ⟨Bs, 0, none⟩), .pointer (some ⟨Bc, 0, none⟩), .pointer (some ⟨Bm, 0, none⟩), .pointer (some ⟨Bb, 0, none⟩), .pointer (some ⟨Bf, 0, none⟩)]) := fun o => ((below_alloc (Below.refl w3.heap.size w3) o).cell (p := ⟨Bf, 0, none⟩) (World.block_lt_of_cell? w3 _ hcf3)).trans hcf3; clear hf hb; go_simp) | (go_at_call 69; (try rw [if_neg k8]); refine (sum_call hsl ks (some ⟨Ab, Ao + fr, none⟩) (c0 - fr) su _ ?s1 HCap.out HSU.out).mono ?_; (case s1 => (with_reducible repeat (first | refine Kd.C_alloc ?_ _ | refine Kd.C_drewN ?_ _ | refine Kd.C_drew ?_)); (first | exact Kd.C_below HCS.out HE4.out.bl | exact Kd.C_below HCS.out (HE.out.below F.n0 HW.out).bl | exact Kd.C_below HCS.out HE.out.bl)); rintro e w5 ⟨rfl, ⟨nd, rfl⟩⟩) | (go_at_call 68; refine (ih (rows ++ [(i : Int) + 1]) (.slice (some ⟨g4, 0, none⟩) (rows.length + 1) cap4) f2 mi sti vb' _ (HE4.out.below F.n0 (by repeat (first | (with_reducible first | exact (Below.refl w4.heap.size w4) | apply below_alloc | apply pw_below_drewN | apply below_drew1) | exact (Below.refl w4.heap.size w4)) : Below w4.heap.size w4 _)) (Kd.R_below HV.out (by repeat (first | (with_reducible first | exact (Below.refl w4.heap.size w4) | apply below_alloc | apply pw_below_drewN | apply below_drew1) | exact (Below.refl w4.heap.size w4)) : Below w4.heap.size w4 _)) H1.out H2.out H3.out).mono ?_; rintro e w6 ⟨rfl, vb6, he6, hk6⟩; have HE6 := Aside0.mk he6; have HK6 := Aside0.mk (Kept.then_ (S2 := TwoB Bm Bb) (Kept.below HK4.out (by repeat (first | (with_reducible first | exact (Below.refl w4.heap.size w4) | apply below_alloc | apply pw_below_drewN | apply below_drew1) | exact (Below.refl w4.heap.size w4)) : Below w4.heap.size w4 _)) hk6 (fun _ h => .inl h)); have HR6 := Aside0.mk (R_two F (Kd.R_below HR4.out (by repeat (first | (with_reducible first | exact (Below.refl w4.heap.size w4) | apply below_alloc | apply pw_below_drewN | apply below_drew1) | exact (Below.refl w4.heap.size w4)) : Below w4.heap.size w4 _)) hk6); clear he6 hk6) | ((with_reducible refine gate_app (s := .tmp 50) (x := .tmp 52) (t := 37) rfl ?_); refine step_append_lies _ rfl (.tmp 50) (.tmp 52) 37 rfl wr.heap.size 3 i0 (.int .i64 0) 1 8 Tryd.underlying37 hi0 hz0 hz1 hz2 rfl (by decide) (.slice Af rows.length cf) rows.length (encs (Value.int .i64) rows) rfl (Kd.own_of_R (enc := Value.int .i64) (h1 := fun _ => rfl) (by (with_reducible repeat (first | apply Kd.R_alloc | apply Kd.R_drewN | apply Kd.R_drew)); exact HF.out)) ⟨_, 0, none⟩ 1 1 [.int .i64 ((i : Int) + 1)] rfl rfl (one_newsT (by first | exact hbx | exact new_cellT _ _ _)) (by simp [Value.oneCell']) (by decide) (by simp only [maxLen]; omega) (by omega) (below_size (by repeat (first | (with_reducible first | exact HW.out | apply below_alloc | apply pw_below_drewN | apply below_drew1) | exact HW.out) : Below wr.heap.size wr _)) _ rfl ?_; intro g4 cap4 w4 hown4 hg4 hat4 hlt4;  have hb4 : Below wr.heap.size wr w4 := pw_below_grown (by repeat (first | (with_reducible first | exact HW.out | apply below_alloc | apply pw_below_drewN | apply below_drew1) | exact HW.out) : Below wr.heap.size wr _) _ (below_size (by repeat (first | (with_reducible first | exact HW.out | apply below_alloc | apply pw_below_drewN | apply below_drew1) | exact HW.out) : Below wr.heap.size wr _)) hg4 (fun k hk => Kd.R_base HF.out k hk); have HV := Aside0.mk (Kd.R_lower (Kd.R_of_own (enc := Value.int .i64) (h1 := fun _ => rfl) (xs := rows ++ [(i : Int) + 1]) (by simpa [encs] using hown4) (fun _ _ => trivial)) HE.out.nn : Kd.R (Kd.int .i64) 3 w4 N0 (fun _ => True) (.slice (some ⟨g4, 0, none⟩) (rows.length + 1) cap4) (rows ++ [(i : Int) + 1])); have HE4 := Aside0.mk (HE.out.below F.n0 hb4); have HK4 := Aside0.mk (HK.out.below hb4); have HR4 := Aside0.mk (Kd.R_below HR.out hb4); have hcc4 : w4.cell? ⟨Bc, 0, none⟩ = some (.slice (some ⟨Ab, Ao, none⟩) n c0) := (blk_cell HE4.out.bc 0).trans rfl; have hcf4 : w4.cell? ⟨Bf, 0, none⟩ = some (.func (.func 68) #[] #[.pointer (some ⟨Bs, 0, none⟩), .pointer (some ⟨Bc, 0, none⟩), .pointer (some ⟨Bm, 0, none⟩), .pointer (some ⟨Bb, 0, none⟩), .pointer (some ⟨Bf, 0, none⟩)]) := (blk_cell HE4.out.bf 0).trans rfl; clear hown4 hg4 hat4 hlt4 hb4))
        all_goals go_wp2
        all_goals (go_roundg (gk - 1))
        all_goals (first | (have := HQ.out; omega) | exact ⟨i + 1, vb6, (by first | rfl | (simp; done) | (simp [*]; done)), ⟨HLT.out⟩, ⟨HQ.out.1⟩, ⟨by rw [HCU.out]; exact HE6.out⟩, HK6, HR6⟩)
      · have c1 : decide ((f2 : Int) ≤ (tp : Int)) = false := decide_eq_false (by omega)
        have c2 : decide (f2 ≤ tp) = false := decide_eq_false (by omega)
        obtain rfl : i = tp - fr := by omega
        have hb1 := L1.out; have hb2 := L2.out; have hb1W := L3.out; have hb2W := L4.out; have ha := L5.out; have haW := L6.out
        go_wp2
        go_end0
        exact ⟨rfl, vb', HE.out, HK.out⟩
end Go.Proofs.YtedpdfmaccoinaaDoor.P

namespace Go.Proofs.YtedpdfmaccoinaaDoor.Pure
open Go.RowKit Go.Proofs.YtedpdfmaccoinaaDoor.P Go.Proofs.YtedpdfmaccoinaaDoorW.PrintWords Go.Proofs.YtedpdfmaccoinaaDoorW.PrintLast Go.Proofs.YtedpdfmaccoinaaDoorW.PrintMore
set_option linter.unusedVariables false
set_option linter.unusedSimpArgs false
/-- All ways to cut from a column on, in order, each with what its poorest part has. -/
def cand (cs : List Int) : Nat → Nat → List (List Int × Int)
  | 0, fr => [([((cs.length - fr : Nat) : Int)], isum (seg cs fr (cs.length - fr)))]
  | r + 1, fr => (List.range (cs.length - (r + 1) - fr)).flatMap fun (i : Nat) => (cand cs r (fr + (i + 1))).map fun p => (((i : Int) + 1) :: p.1, mn2 (isum (seg cs fr (i + 1))) p.2)
def better (ws : List Int) (po : Int) (st p : List Int × Int) : List Int × Int := if st.2 < mn2 po p.2 then (ws ++ p.1, mn2 po p.2) else st
theorem foldl_fm {α β γ : Type} (f : γ → β → γ) (g : α → List β) : ∀ (l : List α) (b : γ), (l.flatMap g).foldl f b = l.foldl (fun b x => (g x).foldl f b) b
  | [], b => rfl
  | x :: l, b => by rw [List.flatMap_cons, List.foldl_append, List.foldl_cons, foldl_fm f g l]
theorem mn2_assoc (a b c : Int) : mn2 (mn2 a b) c = mn2 a (mn2 b c) := by
  by_cases h1 : b < a <;> by_cases h2 : c < b <;> by_cases h3 : c < a <;> simp only [mn2, h1, h2, h3, if_true, if_false] <;> omega
theorem cutS_cand (cs : List Int) : ∀ (r : Nat) (ws : List Int) (fr : Nat) (po : Int) (st : List Int × Int), cutS cs r ws fr po st = (cand cs r fr).foldl (better ws po) st
  | 0, ws, fr, po, st => by
    simp only [cand, List.foldl_cons, List.foldl_nil, better]
    unfold cutS
    rfl
  | r + 1, ws, fr, po, st => by
    rw [cand, foldl_fm]
    unfold cutS
    congr 1
    funext st i
    rw [cutS_cand cs r, List.foldl_map]
    congr 1
    funext st p
    unfold better
    rw [mn2_assoc, List.append_assoc]
    rfl
def bet (st p : List Int × Int) : List Int × Int := if st.2 < p.2 then p else st
theorem bet_fold : ∀ (l : List (List Int × Int)) (st : List Int × Int), (l.foldl bet st = st ∧ ∀ p ∈ l, p.2 ≤ st.2) ∨ (st.2 < (l.foldl bet st).2 ∧ l.find? (fun p => decide ((l.foldl bet st).2 ≤ p.2)) = some (l.foldl bet st) ∧ ∀ p ∈ l, p.2 ≤ (l.foldl bet st).2)
  | [], st => .inl ⟨rfl, fun p h => by simp at h⟩
  | x :: l, st => by
    rw [List.foldl_cons]
    by_cases h : st.2 < x.2
    · rw [show bet st x = x by unfold bet; rw [if_pos h]]
      rcases bet_fold l x with ⟨e, ha⟩ | ⟨h1, h2, h3⟩
      · rw [e]
        refine .inr ⟨h, ?_, ?_⟩
        · rw [List.find?_cons_of_pos (by simp)]
        · intro p hp
          rcases List.mem_cons.1 hp with rfl | hp
          · exact Int.le_refl _
          · exact ha p hp
      · refine .inr ⟨by omega, ?_, ?_⟩
        · rw [List.find?_cons_of_neg (by simp; omega)]
          exact h2
        · intro p hp
          rcases List.mem_cons.1 hp with rfl | hp
          · omega
          · exact h3 p hp
    · rw [show bet st x = st by unfold bet; rw [if_neg h]]
      rcases bet_fold l st with ⟨e, ha⟩ | ⟨h1, h2, h3⟩
      · rw [e]
        refine .inl ⟨rfl, ?_⟩
        intro p hp
        rcases List.mem_cons.1 hp with rfl | hp
        · omega
        · exact ha p hp
      · refine .inr ⟨h1, ?_, ?_⟩
        · rw [List.find?_cons_of_neg (by simp; omega)]
          exact h2
        · intro p hp
          rcases List.mem_cons.1 hp with rfl | hp
          · omega
          · exact h3 p hp
theorem seg_sum_le {cs : List Int} (h : Sml cs) (i m : Nat) : 0 ≤ isum (seg cs i m) := (h.seg i m).bd.1
theorem cand_nonneg {cs : List Int} (h : Sml cs) : ∀ (r fr : Nat) (p : List Int × Int), p ∈ cand cs r fr → 0 ≤ p.2
  | 0, fr, p, hp => by
    simp only [cand, List.mem_singleton] at hp
    subst hp
    exact seg_sum_le h _ _
  | r + 1, fr, p, hp => by
    rw [cand, List.mem_flatMap] at hp
    obtain ⟨i, _, hp⟩ := hp
    obtain ⟨q, hq, rfl⟩ := List.mem_map.1 hp
    have h1 := cand_nonneg h r _ q hq
    have h2 := seg_sum_le h fr (i + 1)
    show 0 ≤ mn2 _ _
    unfold mn2
    split <;> omega
theorem cand_some (cs : List Int) : ∀ (r fr : Nat), fr + r + 1 ≤ cs.length → cand cs r fr ≠ []
  | 0, fr, _ => by simp [cand]
  | r + 1, fr, h => by
    intro e
    rw [cand, List.flatMap_eq_nil_iff] at e
    have h1 := e 0 (List.mem_range.2 (by omega))
    rw [List.map_eq_nil_iff] at h1
    exact cand_some cs r (fr + (0 + 1)) (by omega) h1
theorem cand_none (cs : List Int) (r fr : Nat) (h : cs.length < fr + r + 2) : cand cs (r + 1) fr = [] := by
  rw [cand, show cs.length - (r + 1) - fr = 0 by omega]
  rfl
/-- The best that the poorest can have. -/
def topV (l : List (List Int × Int)) : Int := l.foldl (fun b p => if b < p.2 then p.2 else b) (-1)
theorem topV_go : ∀ (l : List (List Int × Int)) (b x : Int), l.foldl (fun b p => if b < p.2 then p.2 else b) b ≤ x ↔ b ≤ x ∧ ∀ p ∈ l, p.2 ≤ x
  | [], b, x => by simp
  | y :: l, b, x => by
    rw [List.foldl_cons, topV_go l]
    simp only [List.mem_cons, forall_eq_or_imp]
    constructor
    · rintro ⟨h1, h2⟩
      split at h1
      · exact ⟨by omega, h1, h2⟩
      · exact ⟨h1, by omega, h2⟩
    · rintro ⟨h1, h2, h3⟩
      refine ⟨?_, h3⟩
      split
      · exact h2
      · exact h1
theorem topV_le (l : List (List Int × Int)) (x : Int) : topV l ≤ x ↔ -1 ≤ x ∧ ∀ p ∈ l, p.2 ≤ x := topV_go l (-1) x
theorem topV_ge (l : List (List Int × Int)) {x : Int} (hx : 0 ≤ x) : x ≤ topV l ↔ ∃ p ∈ l, x ≤ p.2 := by
  constructor
  · intro h
    apply Classical.byContradiction
    intro hn
    have h1 : topV l ≤ x - 1 := (topV_le l _).2 ⟨by omega, fun p hp => by
      apply Classical.byContradiction
      intro h2
      exact hn ⟨p, hp, by omega⟩⟩
    omega
  · rintro ⟨p, hp, h⟩
    have := ((topV_le l _).1 (Int.le_refl _)).2 p hp
    omega
theorem topV_low (l : List (List Int × Int)) : -1 ≤ topV l := ((topV_le l _).1 (Int.le_refl _)).1
def V (cs : List Int) (r fr : Nat) : Int := topV (cand cs r fr)
theorem V_zero (cs : List Int) (h : Sml cs) (fr : Nat) : V cs 0 fr = isum (seg cs fr (cs.length - fr)) := by
  have := seg_sum_le h fr (cs.length - fr)
  unfold V topV cand
  simp only [List.foldl_cons, List.foldl_nil]
  rw [if_pos (by omega)]
theorem V_none (cs : List Int) (r fr : Nat) (h : cs.length < fr + r + 2) : V cs (r + 1) fr = -1 := by
  unfold V
  rw [cand_none cs r fr h]
  rfl
theorem V_low (cs : List Int) (r fr : Nat) : -1 ≤ V cs r fr := topV_low _
/-- What the reference's loop does with one cut. -/
def stepV (cs : List Int) (r fr : Nat) (b : Int) (i : Nat) : Int := if 0 ≤ V cs r (fr + (i + 1)) then (if b < mn2 (V cs r (fr + (i + 1))) (isum (seg cs fr (i + 1))) then mn2 (V cs r (fr + (i + 1))) (isum (seg cs fr (i + 1))) else b) else b
theorem mn2_le (a b x : Int) : mn2 a b ≤ x ↔ a ≤ x ∨ b ≤ x := by
  unfold mn2
  split <;> omega
theorem stepV_le {cs : List Int} (h : Sml cs) (r fr : Nat) (b : Int) (i : Nat) (x : Int) : stepV cs r fr b i ≤ x ↔ b ≤ x ∧ ∀ p ∈ cand cs r (fr + (i + 1)), mn2 (isum (seg cs fr (i + 1))) p.2 ≤ x := by
  have key : 0 ≤ V cs r (fr + (i + 1)) → (mn2 (V cs r (fr + (i + 1))) (isum (seg cs fr (i + 1))) ≤ x ↔ ∀ p ∈ cand cs r (fr + (i + 1)), mn2 (isum (seg cs fr (i + 1))) p.2 ≤ x) := by
    intro h0
    rw [mn2_le]
    constructor
    · intro hh p hp
      rw [mn2_le]
      rcases hh with hh | hh
      · exact .inr (((topV_le _ _).1 hh).2 p hp)
      · exact .inl hh
    · intro hh
      by_cases hs : isum (seg cs fr (i + 1)) ≤ x
      · exact .inr hs
      · refine .inl ?_
        obtain ⟨p, hp, h1⟩ := (topV_ge (cand cs r (fr + (i + 1))) h0).1 (Int.le_refl _)
        have h2 := hh p hp
        rw [mn2_le] at h2
        rcases h2 with h2 | h2
        · exact absurd h2 hs
        · have : V cs r (fr + (i + 1)) ≤ p.2 := h1
          omega
  unfold stepV
  by_cases h0 : 0 ≤ V cs r (fr + (i + 1))
  · rw [if_pos h0]
    rw [← key h0]
    split
    · constructor
      · intro h1; exact ⟨by omega, h1⟩
      · intro h1; exact h1.2
    · constructor
      · intro h1; exact ⟨h1, by omega⟩
      · intro h1; exact h1.1
  · rw [if_neg h0]
    constructor
    · intro h1
      refine ⟨h1, fun p hp => ?_⟩
      have h2 := cand_nonneg h r _ p hp
      have h3 := ((topV_le (cand cs r (fr + (i + 1))) _).1 (Int.le_refl _)).2 p hp
      exact absurd (show 0 ≤ V cs r (fr + (i + 1)) by unfold V; omega) h0
    · intro h1; exact h1.1
theorem stepV_fold {cs : List Int} (h : Sml cs) (r fr : Nat) (x : Int) : ∀ (l : List Nat) (b : Int), l.foldl (stepV cs r fr) b ≤ x ↔ b ≤ x ∧ ∀ i ∈ l, ∀ p ∈ cand cs r (fr + (i + 1)), mn2 (isum (seg cs fr (i + 1))) p.2 ≤ x
  | [], b => by simp
  | y :: l, b => by
    rw [List.foldl_cons, stepV_fold h r fr x l, stepV_le h]
    simp only [List.mem_cons, forall_eq_or_imp]
    exact and_assoc
theorem V_succ {cs : List Int} (h : Sml cs) (r fr : Nat) (hfr : fr < cs.length) : V cs (r + 1) fr = (List.range (cs.length - 1 - fr)).foldl (stepV cs r fr) (-1) := by
  have key : ∀ x, V cs (r + 1) fr ≤ x ↔ (List.range (cs.length - 1 - fr)).foldl (stepV cs r fr) (-1) ≤ x := by
    intro x
    rw [stepV_fold h, V, topV_le]
    refine and_congr_right fun _ => ?_
    constructor
    · intro hh i hi p hp
      by_cases hi2 : i < cs.length - (r + 1) - fr
      · refine hh (((i : Int) + 1) :: p.1, mn2 (isum (seg cs fr (i + 1))) p.2) ?_
        rw [cand]
        exact List.mem_flatMap.2 ⟨i, List.mem_range.2 hi2, List.mem_map.2 ⟨p, hp, rfl⟩⟩
      · cases r with
        | zero => exact absurd (List.mem_range.1 hi) (by omega)
        | succ r =>
          rw [cand_none cs r _ (by omega)] at hp
          cases hp
    · intro hh p hp
      rw [cand] at hp
      obtain ⟨i, hi, hp⟩ := List.mem_flatMap.1 hp
      obtain ⟨q, hq, rfl⟩ := List.mem_map.1 hp
      exact hh i (List.mem_range.2 (by have := List.mem_range.1 hi; omega)) q hq
  have h1 := (key _).1 (Int.le_refl _)
  have h2 := (key _).2 (Int.le_refl _)
  omega
/-- The first cut that leaves each with so many, step by step. -/
theorem cand_first (cs : List Int) (g : Int) (hg : 0 ≤ g) (r fr : Nat) (p : List Int × Int) (hp : (cand cs (r + 1) fr).find? (fun p => decide (g ≤ p.2)) = some p) :
    ∃ i, i < cs.length - (r + 1) - fr ∧ (∀ j, j < i → ¬ (g ≤ isum (seg cs fr (j + 1)) ∧ g ≤ V cs r (fr + (j + 1)))) ∧ g ≤ isum (seg cs fr (i + 1)) ∧ g ≤ V cs r (fr + (i + 1)) ∧ ∃ q, (cand cs r (fr + (i + 1))).find? (fun p => decide (g ≤ p.2)) = some q ∧ p.1 = ((i : Int) + 1) :: q.1 := by
  have hmem : ∀ (i : Nat), (∃ q ∈ (cand cs r (fr + (i + 1))).map (fun p => (((i : Int) + 1) :: p.1, mn2 (isum (seg cs fr (i + 1))) p.2)), g ≤ q.2) ↔ (g ≤ isum (seg cs fr (i + 1)) ∧ g ≤ V cs r (fr + (i + 1))) := by
    intro i
    unfold V
    rw [topV_ge _ hg]
    constructor
    · rintro ⟨q, hq, h1⟩
      obtain ⟨q', hq', rfl⟩ := List.mem_map.1 hq
      have h2 : g ≤ mn2 (isum (seg cs fr (i + 1))) q'.2 := h1
      unfold mn2 at h2
      split at h2
      · exact ⟨by omega, q', hq', h2⟩
      · exact ⟨h2, q', hq', by omega⟩
    · rintro ⟨h1, q, hq, h2⟩
      refine ⟨_, List.mem_map.2 ⟨q, hq, rfl⟩, ?_⟩
      show g ≤ mn2 _ _
      unfold mn2
      split <;> omega
  rw [cand, List.find?_flatMap] at hp
  obtain ⟨l1, i, l2, hl, hf, hn⟩ := List.findSome?_eq_some_iff.1 hp
  have hlen : l1.length < cs.length - (r + 1) - fr := by
    have := congrArg List.length hl
    simp at this
    omega
  have hi : i = l1.length := by
    have h1 : (List.range (cs.length - (r + 1) - fr))[l1.length]? = some i := by rw [hl]; simp
    rw [List.getElem?_range hlen] at h1
    exact (Option.some.inj h1).symm
  refine ⟨i, by omega, fun j hj hh => ?_, ?_⟩
  · have hj1 : j ∈ l1 := by
      have h1 : (List.range (cs.length - (r + 1) - fr))[j]? = some j := List.getElem?_range (by omega)
      rw [hl, List.getElem?_append_left (by omega)] at h1
      exact List.mem_of_getElem? h1
    have h2 := hn j hj1
    obtain ⟨q, hq, h3⟩ := (hmem j).2 hh
    have := List.find?_eq_none.1 h2 q hq
    simp at this
    omega
  · have h1 : ∃ q ∈ (cand cs r (fr + (i + 1))).map (fun p => (((i : Int) + 1) :: p.1, mn2 (isum (seg cs fr (i + 1))) p.2)), g ≤ q.2 := ⟨p, List.mem_of_find?_eq_some hf, by have := List.find?_some hf; simpa using this⟩
    obtain ⟨h2, h3⟩ := (hmem i).1 h1
    refine ⟨h2, h3, ?_⟩
    rw [List.find?_map] at hf
    obtain ⟨q, hq, hqp⟩ := Option.map_eq_some_iff.1 hf
    refine ⟨q, ?_, by rw [← hqp]⟩
    rw [← hq]
    congr 1
    funext p
    show decide (g ≤ p.2) = decide (g ≤ mn2 _ p.2)
    congr 1
    refine propext ?_
    unfold mn2
    split <;> omega
end Go.Proofs.YtedpdfmaccoinaaDoor.Pure

namespace Go.Proofs.YtedpdfmaccoinaaDoor.P
open Go.RowKit Go.Proofs.YtedpdfmaccoinaaDoorW.PrintWords Go.Proofs.YtedpdfmaccoinaaDoorW.PrintLast Go.Proofs.YtedpdfmaccoinaaDoorW.PrintMore Go.Proofs.YtedpdfmaccoinaaDoor.Pure
set_option linter.unusedVariables false
set_option linter.unusedSimpArgs false
def impl_strips.f (l0 : List Int) (a1 : Int) : Option (List Int × Int) := if l0.length ≤ 8 ∧ (∀ x ∈ l0, 0 ≤ x ∧ x ≤ 1000) ∧ 1 ≤ a1 ∧ a1 ≤ (l0.length : Int) then some (cutS l0 (a1.toNat - 1) [] 0 (isum l0) ([], -1)) else none
abbrev strFn (Bs Bc Bm Bb Bf : Nat) : Value := .func (.func 68) #[] #[.pointer (some ⟨Bs, 0, none⟩), .pointer (some ⟨Bc, 0, none⟩), .pointer (some ⟨Bm, 0, none⟩), .pointer (some ⟨Bb, 0, none⟩), .pointer (some ⟨Bf, 0, none⟩)]
theorem old_allocT {W : World} {k : Nat} {o' : Obj} (h : W.heap[k]? = some o') (o : Obj) : (W.alloc o).heap[k]? = some o' := (Below.heap_alloc W o k (blk_lt h)).trans h
theorem new_allocT (W : World) (o : Obj) {k : Nat} (hk : k = W.heap.size) : (W.alloc o).heap[k]? = some o := by
  subst hk
  exact heap_alloc_new W o
theorem R_nilT (W : World) (N0 : Nat) : Kd.R (Kd.int .i64) 3 W N0 (fun _ => True) (.slice none 0 0) [] := Kd.R_nil _ _ _ _ _
set_option maxHeartbeats 8000000 in
set_option maxRecDepth 100000 in
theorem impl_strips.calls (A0 : Option Addr) (c0 : Nat) (l0 : List Int) (a1 : Int) (r1 : List Int) (r2 : Int) (w : World) (hr0 : Kd.C (Kd.int .i64) w A0 l0.length l0) (hc0 : l0.length ≤ c0) (h : impl_strips.f l0 a1 = some (r1, r2)) :
    Calls Tryd.prog 53 #[.slice A0 l0.length c0, .int .i64 a1] w fun e w' => ∃ v0_ : Value, e = .returned (.tuple #[v0_, .int .i64 r2]) ∧ Kd.R (Kd.int .i64) 3 w' w.heap.size (fun _ => True) v0_ r1 ∧ Below w.heap.size w w' := by
  unfold impl_strips.f at h
  by_cases hok : l0.length ≤ 8 ∧ (∀ x ∈ l0, 0 ≤ x ∧ x ≤ 1000) ∧ 1 ≤ a1 ∧ a1 ≤ (l0.length : Int)
  case neg => rw [if_neg hok] at h; cases h
  rw [if_pos hok, Option.some.injEq] at h
  obtain ⟨m, rfl⟩ : ∃ m : Nat, a1 = ((m + 1 : Nat) : Int) := ⟨a1.toNat - 1, by omega⟩
  have hsml : Sml l0 := ⟨hok.1, hok.2.1⟩
  obtain ⟨n, hn⟩ : ∃ n, l0.length = n := ⟨_, rfl⟩
  have hn1 : m + 1 ≤ n := by omega
  have hn8 : n ≤ 8 := by omega
  obtain ⟨Ab, Ao, rfl, hAb, _⟩ := Go.Proofs.YtedpdfmaccoinaaDoor.Open.C_at hr0 (by omega)
  rw [hn] at hr0 hc0 ⊢
  obtain ⟨ks, hks⟩ := sum_ev hsml
  have HSU := Aside0.mk (hks ks (Nat.le_refl _))
  rw [show (((m + 1 : Nat) : Int).toNat - 1) = m by omega] at h
  have HC0 := Aside0.mk hr0
  have HN := Aside0.mk hn
  have HS := Lib.hid (fun Bs Bc Bm Bb Bf N0 F => strip_any l0 n hn ((m + 1 : Nat) : Int) Ab Ao c0 Bs Bc Bm Bb Bf N0 w hsml hc0 hr0 F m)
  have H := Aside0.mk h
  have H8 := Aside0.mk (show ([] : List Int).length + m + 1 ≤ 8 by simp; omega)
  have HFR := Aside0.mk (show 0 + m + 1 ≤ n by omega)
  have HLC := Aside0.mk hc0
  clear h hks hsml hok hr0 hn
  obtain ⟨sh, hsh⟩ : ∃ x : Int, ((m + 1 : Nat) : Int) = x := ⟨_, rfl⟩
  generalize isum l0 = tot at H HSU
  rw [hsh] at HS ⊢
  have HSH := Aside0.mk hsh
  clear hsh
  go_enter Tryd.func53, Tryd.ntmps53
  go_wp2
  obtain ⟨Y, hY⟩ : ∃ Y, ((((w.alloc (.cells #[.slice (some ⟨Ab, Ao, none⟩) n c0] 37)).alloc (.cells #[.int .i64 sh] 3)).alloc (.cells #[.slice none 0 0] 37)).alloc (.cells #[.int .i64 (-1)] 3)).alloc (.cells #[strFn (w.heap.size + 1) w.heap.size (w.heap.size + 1 + 1 + 1) (w.heap.size + 1 + 1) (w.heap.size + 1 + 1 + 1 + 1)] 87) = Y := ⟨_, rfl⟩
  rw [hY]
  have hsz : Y.heap.size = w.heap.size + 5 := by rw [← hY]; simp
  have hF : StFar (w.heap.size + 1) w.heap.size (w.heap.size + 1 + 1 + 1) (w.heap.size + 1 + 1) (w.heap.size + 1 + 1 + 1 + 1) w.heap.size (w.heap.size + 5) := by constructor <;> omega
  have HEY : StEnv n sh ⟨Ab, Ao, none⟩ c0 (w.heap.size + 1) w.heap.size (w.heap.size + 1 + 1 + 1) (w.heap.size + 1 + 1) (w.heap.size + 1 + 1 + 1 + 1) (w.heap.size + 5) w ([], -1) (.slice none 0 0) Y := by
    rw [← hY]
    refine ⟨?_, ?_, ?_, ?_, ?_, ?_, by simp, ?_⟩
    · exact old_allocT (old_allocT (old_allocT (new_allocT _ _ (by simp)) _) _) _
    · exact old_allocT (old_allocT (old_allocT (old_allocT (new_allocT _ _ (by simp)) _) _) _) _
    · exact old_allocT (new_allocT _ _ (by simp)) _
    · exact old_allocT (old_allocT (new_allocT _ _ (by simp)) _) _
    · exact new_allocT _ _ (by simp)
    · exact R_nilT _ _
    · exact below_alloc (below_alloc (below_alloc (below_alloc (below_alloc (Below.refl _ _) _) _) _) _) _
  clear hY
  generalize w.heap.size + 1 + 1 + 1 + 1 = Bf at hF HEY ⊢
  generalize w.heap.size + 1 + 1 + 1 = Bm at hF HEY ⊢
  generalize w.heap.size + 1 + 1 = Bb at hF HEY ⊢
  generalize w.heap.size + 1 = Bs at hF HEY ⊢
  have HE := Aside0.mk HEY
  have FA := Aside0.mk hF
  clear HEY hF
  go_region_held3 (fun w' => w'.cell? ⟨Bf, 0, none⟩ = some (strFn Bs w.heap.size Bm Bb Bf) ∧ w'.cell? ⟨w.heap.size, 0, none⟩ = some (.slice (some ⟨Ab, Ao, none⟩) n c0)) (exact ⟨(blk_cell HE.out.bf 0).trans rfl, (blk_cell HE.out.bc 0).trans rfl⟩) (first | (go_at_call 69; refine (sum_call HN.out ks (some ⟨Ab, Ao, none⟩) c0 tot _ ?s1 HLC.out HSU.out).mono ?_; (case s1 => (with_reducible repeat (first | refine Kd.C_drewN ?_ _ | refine Kd.C_drew ?_)); exact Kd.C_below HC0.out HE.out.bl); rintro e w2 ⟨rfl, hd⟩; have n0_ := Aside0.mk ((HE.out.below FA.out.n0 (below_drew1 (Below.refl _ _))).below FA.out.n0 hd.below); clear HE hd; have HE := n0_; clear n0_) | (go_at_call 68; refine (HS.out _ _ _ _ _ _ FA.out [] (.slice none 0 0) 0 tot ([], -1) _ _ HE.out (R_nilT _ _) (by rw [← HSH.out]; simp) H8.out HFR.out).mono ?_; rintro e w3 ⟨rfl, vb', he, hk⟩; rw [H.out] at he; have n0_ := Aside0.mk he; clear HE he hk; have HE := n0_; clear n0_))
  go_wp2
  have hbb : w3.cell? ⟨Bb, 0, none⟩ = some vb' := (blk_cell HE.out.bb 0).trans rfl
  have hbm : w3.cell? ⟨Bm, 0, none⟩ = some (.int .i64 r2) := (blk_cell HE.out.bm 0).trans rfl
  go_region
  all_goals go_wp2
  all_goals go_ret2
  all_goals exact ⟨_, rfl, Kd.R_lower (by (with_reducible repeat (first | apply Kd.R_drewN | apply Kd.R_drew)); exact HE.out.rb) FA.out.n0, by repeat (first | (with_reducible first | exact HE.out.bl | apply pw_below_drewN | apply below_drew1) | exact HE.out.bl)⟩
end Go.Proofs.YtedpdfmaccoinaaDoor.P
