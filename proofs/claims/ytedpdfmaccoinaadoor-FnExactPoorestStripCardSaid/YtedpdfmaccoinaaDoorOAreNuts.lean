/- Slices that came in, read cell by cell: the form in which the library's contracts ask it. | AreNuts: whether a list of texts is a bar with nuts: what the call comes to. Conditions: the slice reads as the list; no text is longer than the form's reach. -/
import Derived.Test.YtedpdfmaccoinaaDoorWMore
import Derived.RowKit
import Derived.Test.YtedpdfmaccoinaaDoorPx0
import Derived.Test.YtedpdfmaccoinaaDoorPx8
import Derived.Test.YtedpdfmaccoinaaDoorHShelf
import Derived.Lib.Hide
import Derived.Lib.SlBy
import Derived.Lib.Walk
import Derived.Shelf.Strings.SlTrimAscii
namespace Go.Proofs.YtedpdfmaccoinaaDoor.Open
open Go.RowKit
open Go.Proofs.YtedpdfmaccoinaaDoorW.PrintWords
theorem C_at {α : Type} [Inhabited α] {enc : α → Value} {h1 : ∀ x, (enc x).oneCell' = true} {w : World} {A : Option Addr} {l : List α} (h : (Kd.scalar enc h1).C w A l.length l) (hp : 0 < l.length) :
    ∃ b off, A = some ⟨b, off, none⟩ ∧ b < w.heap.size ∧ ∀ j, j < l.length → w.cell? ⟨b, off + j, none⟩ = some (enc l[j]!) := by
  obtain ⟨ad, e, hc⟩ := h.2.2 hp
  have all : ∀ j, j < l.length → w.cell? (ad.add j) = some (enc l[j]!) := by
    intro j hj
    obtain ⟨c, hl, hk, hcell⟩ := hc j l[j] (List.getElem?_eq_getElem hj)
    have hk' : c = [enc l[j]] := hk
    subst hk'
    have := hcell 0 _ rfl
    rw [getElem!_pos l j hj]
    simpa [Kd.scalar] using this
  have h0 := all 0 hp
  obtain ⟨b, off, spot⟩ := ad
  have hspot : spot = none := by simpa [Addr.add] using World.cell?_spot h0
  subst hspot
  refine ⟨b, off, e, by simpa [Addr.add] using World.block_lt_of_cell? w _ h0, fun j hj => ?_⟩
  have := all j hj
  by_cases hj0 : j = 0
  · subst hj0
    simpa [Addr.add] using this
  · simpa [Addr.add, hj0] using this
end Go.Proofs.YtedpdfmaccoinaaDoor.Open

namespace Go.Proofs.YtedpdfmaccoinaaDoor.P
open Go.RowKit Go.Proofs.YtedpdfmaccoinaaDoorW.PrintWords Go.Proofs.YtedpdfmaccoinaaDoorW.PrintLast Go.Proofs.YtedpdfmaccoinaaDoorW.PrintMore
set_option linter.unusedVariables false

def digitB (b : UInt8) : Bool := [48, 49, 50, 51, 52, 53, 54, 55, 56, 57].contains b
/-- A row that is none of the told length, or not of 1..most signs, or has another sign. -/
def badRow (n most : Int) (s : ByteArray) : Bool := !(decide ((s.size : Int) = n) && (decide (1 ≤ (s.size : Int) ∧ (s.size : Int) ≤ most) && s.data.toList.all digitB))
def nutsB (l : List ByteArray) : Bool := decide (1 ≤ (l.length : Int) ∧ (l.length : Int) ≤ 8) && !(l.any (badRow ((l[0]!).size : Int) 8))
def impl_AreNuts.f (l0 : List (ByteArray)) : Option (Bool) := if (l0.all fun s => decide (s.size ≤ 140737488351232)) = true then some (nutsB l0) else none

theorem within_eq (x lo hi : Int) : impl_within.f x lo hi = some (decide (lo ≤ x ∧ x ≤ hi)) := by
  unfold impl_within.f
  by_cases h : lo ≤ x
  · rw [if_pos h]
    simp [h]
  · rw [if_neg h]
    simp [h]

theorem dropWhile_all (p : UInt8 → Bool) : ∀ l : List UInt8, (l.dropWhile p).all p = l.all p
  | [] => rfl
  | x :: l => by
    cases h : p x with
    | true => rw [List.dropWhile_cons_of_pos h, dropWhile_all p l, List.all_cons, h, Bool.true_and]
    | false => rw [List.dropWhile_cons_of_neg (by simp [h])]
theorem dropWhile_nil (p : UInt8 → Bool) : ∀ l : List UInt8, l.all p = true → l.dropWhile p = []
  | [], _ => rfl
  | x :: l, h => by
    rw [List.all_cons, Bool.and_eq_true] at h
    rw [List.dropWhile_cons_of_pos h.1]
    exact dropWhile_nil p l h.2
theorem trimS_empty (l : List UInt8) : (Lib.trimS l [48, 49, 50, 51, 52, 53, 54, 55, 56, 57]).isEmpty = l.all digitB := by
  show ((((l.reverse.dropWhile digitB).reverse).dropWhile digitB)).isEmpty = l.all digitB
  cases h : l.all digitB with
  | true =>
    rw [dropWhile_nil digitB l.reverse (by rw [List.all_reverse]; exact h)]
    rfl
  | false =>
    have h2 : (((l.reverse.dropWhile digitB).reverse).dropWhile digitB).all digitB = false := by
      rw [dropWhile_all, List.all_reverse, dropWhile_all, List.all_reverse, h]
    cases he : ((l.reverse.dropWhile digitB).reverse).dropWhile digitB with
    | nil => rw [he] at h2; simp at h2
    | cons x xs => rfl

section
variable {b0 b1 b2 b off n c : Nat} {most : Int} {f0 s : ByteArray} {W : World}
set_option maxHeartbeats 1000000 in
theorem lit_other (h0 : W.cell? ⟨b0, 0, none⟩ = some (.slice (some ⟨b, off, none⟩) n c)) (hn : 0 < n) (hf : W.cell? ⟨b, off, none⟩ = some (.string f0)) (hne : ((s.size : Int) != (f0.size : Int)) = true) :
    Calls Tryd.prog 73 #[.string s, .pointer (some ⟨b0, 0, none⟩), .pointer (some ⟨b1, 0, none⟩), .pointer (some ⟨b2, 0, none⟩)] W fun e w' => e = .returned (.bool true) ∧ Below W.heap.size W w' := by
  go_enter Tryd.func73, Tryd.ntmps73
  go_wp2_with (fail)
  go_ret
  exact ⟨rfl, by first | exact Below.refl _ _ | exact pw_below_drewN (Below.refl _ _) _⟩
set_option maxHeartbeats 1000000 in
theorem lit_long (h0 : W.cell? ⟨b0, 0, none⟩ = some (.slice (some ⟨b, off, none⟩) n c)) (hn : 0 < n) (hf : W.cell? ⟨b, off, none⟩ = some (.string f0)) (h1 : W.cell? ⟨b1, 0, none⟩ = some (.int .i64 most)) (hne : ((s.size : Int) != (f0.size : Int)) = false)
    (hw : decide (1 ≤ (s.size : Int) ∧ (s.size : Int) ≤ most) = false) :
    Calls Tryd.prog 73 #[.string s, .pointer (some ⟨b0, 0, none⟩), .pointer (some ⟨b1, 0, none⟩), .pointer (some ⟨b2, 0, none⟩)] W fun e w' => e = .returned (.bool true) ∧ Below W.heap.size W w' := by
  have C : ∀ W, Calls Tryd.prog 52 #[.int .i64 (s.size : Int), .int .i64 1, .int .i64 most] W fun e w' => e = .returned (.bool false) ∧ Drawn0 W w' := fun W => impl_within.calls _ _ _ _ W (by rw [within_eq, hw])
  have HC := Lib.hid C
  clear C hw
  go_enter Tryd.func73, Tryd.ntmps73
  go_wp2_with (go_at_call 52; refine (HC.out _).mono ?_; rintro e w' ⟨rfl, ⟨q, rfl⟩⟩)
  go_ret
  exact ⟨rfl, pw_below_drewN (Below.refl _ _) _⟩
set_option maxHeartbeats 1000000 in
theorem lit_signs (h0 : W.cell? ⟨b0, 0, none⟩ = some (.slice (some ⟨b, off, none⟩) n c)) (hn : 0 < n) (hf : W.cell? ⟨b, off, none⟩ = some (.string f0)) (h1 : W.cell? ⟨b1, 0, none⟩ = some (.int .i64 most)) (h2 : W.cell? ⟨b2, 0, none⟩ = some (.string ⟨#[48, 49, 50, 51, 52, 53, 54, 55, 56, 57]⟩)) (hne : ((s.size : Int) != (f0.size : Int)) = false)
    (hw : decide (1 ≤ (s.size : Int) ∧ (s.size : Int) ≤ most) = true) (hs : s.size ≤ 140737488351232) :
    Calls Tryd.prog 73 #[.string s, .pointer (some ⟨b0, 0, none⟩), .pointer (some ⟨b1, 0, none⟩), .pointer (some ⟨b2, 0, none⟩)] W fun e w' => e = .returned (.bool (!s.data.toList.all digitB)) ∧ Below W.heap.size W w' := by
  have C : ∀ W, Calls Tryd.prog 52 #[.int .i64 (s.size : Int), .int .i64 1, .int .i64 most] W fun e w' => e = .returned (.bool true) ∧ Drawn0 W w' := fun W => impl_within.calls _ _ _ _ W (by rw [within_eq, hw])
  have T : ∀ W, Calls Tryd.prog 74 #[.string s, .string ⟨#[48, 49, 50, 51, 52, 53, 54, 55, 56, 57]⟩] W fun e w' => e = .returned (.string ⟨(Lib.trimS s.data.toList [48, 49, 50, 51, 52, 53, 54, 55, 56, 57]).toArray⟩) ∧ Below W.heap.size W w' := fun W =>
    Any.strings_Trim_laid Tryd.lays160 (by kernel_rfl) s ⟨#[48, 49, 50, 51, 52, 53, 54, 55, 56, 57]⟩ W (by omega) (by decide) (ascii_of_all (by decide))
  rw [← trimS_empty]
  generalize Lib.trimS s.data.toList [48, 49, 50, 51, 52, 53, 54, 55, 56, 57] = t at T ⊢
  have HC := Lib.hid C
  have HT := Lib.hid T
  clear C hw T
  cases t with
  | nil =>
    go_enter Tryd.func73, Tryd.ntmps73
    go_wp2_with (first | (go_at_call 52; refine (HC.out _).mono ?_; rintro e w' ⟨rfl, ⟨q, rfl⟩⟩) | (go_at_call 74; refine (HT.out _).mono ?_; rintro e w1 ⟨rfl, hb⟩))
    go_ret
    exact ⟨by first | rfl | simp, (pw_below_drewN (Below.refl _ _) _).trans (by simpa using hb)⟩
  | cons x xs =>
    go_enter Tryd.func73, Tryd.ntmps73
    go_wp2_with (first | (go_at_call 52; refine (HC.out _).mono ?_; rintro e w' ⟨rfl, ⟨q, rfl⟩⟩) | (go_at_call 74; refine (HT.out _).mono ?_; rintro e w1 ⟨rfl, hb⟩))
    go_ret
    exact ⟨by first | rfl | simp, (pw_below_drewN (Below.refl _ _) _).trans (by simpa using hb)⟩
theorem lit_any (h0 : W.cell? ⟨b0, 0, none⟩ = some (.slice (some ⟨b, off, none⟩) n c)) (hn : 0 < n) (hf : W.cell? ⟨b, off, none⟩ = some (.string f0)) (h1 : W.cell? ⟨b1, 0, none⟩ = some (.int .i64 most)) (h2 : W.cell? ⟨b2, 0, none⟩ = some (.string ⟨#[48, 49, 50, 51, 52, 53, 54, 55, 56, 57]⟩)) (hs : s.size ≤ 140737488351232) :
    Calls Tryd.prog 73 #[.string s, .pointer (some ⟨b0, 0, none⟩), .pointer (some ⟨b1, 0, none⟩), .pointer (some ⟨b2, 0, none⟩)] W fun e w' => e = .returned (.bool (badRow (f0.size : Int) most s)) ∧ Below W.heap.size W w' := by
  unfold badRow
  by_cases hne : (s.size : Int) = (f0.size : Int)
  · rw [decide_eq_true hne, Bool.true_and]
    have hb : ((s.size : Int) != (f0.size : Int)) = false := by simpa using hne
    clear hne
    cases hw : decide (1 ≤ (s.size : Int) ∧ (s.size : Int) ≤ most) with
    | false =>
      rw [Bool.false_and]
      exact lit_long h0 hn hf h1 hb hw
    | true =>
      rw [Bool.true_and]
      exact lit_signs h0 hn hf h1 h2 hb hw hs
  · rw [decide_eq_false hne, Bool.false_and]
    have hb : ((s.size : Int) != (f0.size : Int)) = true := by simpa using hne
    clear hne
    exact lit_other h0 hn hf hb
end

set_option maxHeartbeats 2000000 in
/-- slices.IndexFunc over texts, for a literal that may lay blocks of its own. -/
theorem strs_IndexFunc (p : ByteArray → Bool) (g : Nat) (lb : Array Value) (eg : ∀ args w, (callFunc g args).run Tryd.prog w = .ok (.enter g args) w) (b off n c : Nat) (zs : List ByteArray) (w : World)
    (hp : ∀ (W : World) (j : Nat), j < n → Below w.heap.size w W → Calls Tryd.prog g (#[.string zs[j]!] ++ lb) W fun e w' => e = .returned (.bool (p zs[j]!)) ∧ Below w.heap.size w w')
    (hz : n ≤ zs.length) (hbig : n ≤ 9223372036854775807) (hb : b < w.heap.size) (hc : ∀ j, j < zs.length → w.cell? ⟨b, off + j, none⟩ = some (.string zs[j]!)) :
    Calls Tryd.prog 75 #[.slice (some ⟨b, off, none⟩) n c, .func (.func g) #[] lb] w fun e w' => e = .returned (.int .i64 (Lib.idxBy (fun _ y => p y) (zs.take n) default)) ∧ Below w.heap.size w w' := by
  have hrow : ∀ (W : World), Below w.heap.size w W → ∀ j, j < zs.length → W.cell? ⟨b, off + j, none⟩ = some (.string zs[j]!) := fun W hW j hj => (hW.cell (p := ⟨b, off + j, none⟩) hb).trans (hc j hj)
  clear hc
  go_enter Tryd.func75, Tryd.ntmps75
  go_wp2
  go_loopg [5, 8] n (fun gg _ s8 wr => ∃ kk : Nat, kk ≤ n ∧ n - kk ≤ gg ∧ s8 = .int .i64 kk ∧ Aside (Below w.heap.size w wr) ∧ Aside (∀ j, j < kk → p zs[j]! = false))
  case atStart => exact ⟨0, Nat.zero_le _, by omega, rfl, Below.refl _ w, fun j hj => absurd hj (Nat.not_lt_zero _)⟩
  case round =>
    obtain ⟨kk, hkk, hg, rfl, BW, A⟩ := hrel
    by_cases hlt : kk < n
    · have hltz : (kk : Int) < (n : Int) := by omega
      have hcell := hrow wr BW.out kk (by omega)
      have hcall := hp wr kk hlt BW.out
      clear hrow hp
      generalize hy : zs[kk]! = y at hcell hcall
      have B : Aside (zs[kk]! = y) := hy
      clear hy
      cases hq : p y with
      | true =>
        rw [hq] at hcall
        go_wp2_with (go_at_fn g; refine hcall.mono ?_; rintro e w' ⟨rfl, hb'⟩)
        go_ret
        refine ⟨?_, hb'⟩
        rw [Lib.idxBy_hit (fun _ y => p y) zs n kk default hlt hz (by show p zs[kk]! = true; rw [B.out]; exact hq) A.out]
        rfl
      | false =>
        rw [hq] at hcall
        go_wp2_with (go_at_fn g; refine hcall.mono ?_; rintro e w' ⟨rfl, hb'⟩)
        go_roundg (n - (kk + 1))
        case measure => omega
        case rel =>
          refine ⟨kk + 1, by omega, by omega, by go_num, hb', (show Aside _ from fun j hj => ?_)⟩
          by_cases e : j = kk
          · subst e
            rw [B.out]; exact hq
          · exact A.out j (by omega)
    · have hltz : ¬ (kk : Int) < (n : Int) := by omega
      have : kk = n := by omega
      subst this
      go_wp2
      go_ret
      refine ⟨?_, BW.out⟩
      rw [Lib.idxBy_miss (fun _ y => p y) zs kk default A.out]
      rfl

set_option maxHeartbeats 2000000 in
theorem strs_ContainsFunc (p : ByteArray → Bool) (g : Nat) (lb : Array Value) (eg : ∀ args w, (callFunc g args).run Tryd.prog w = .ok (.enter g args) w) (b off n c : Nat) (zs : List ByteArray) (w : World)
    (hp : ∀ (W : World) (j : Nat), j < n → Below w.heap.size w W → Calls Tryd.prog g (#[.string zs[j]!] ++ lb) W fun e w' => e = .returned (.bool (p zs[j]!)) ∧ Below w.heap.size w w')
    (hz : n ≤ zs.length) (hbig : n ≤ 9223372036854775807) (hb : b < w.heap.size) (hc : ∀ j, j < zs.length → w.cell? ⟨b, off + j, none⟩ = some (.string zs[j]!)) :
    Calls Tryd.prog 72 #[.slice (some ⟨b, off, none⟩) n c, .func (.func g) #[] lb] w fun e w' => e = .returned (.bool ((zs.take n).any p)) ∧ Below w.heap.size w w' := by
  rw [show (zs.take n).any p = decide (0 ≤ Lib.idxBy (fun _ y => p y) (zs.take n) default) from (Lib.idxBy_nonneg_iff (fun _ y => p y) (zs.take n) default).symm]
  have C := Lib.hid (fun (_ : Unit) => strs_IndexFunc p g lb eg b off n c zs w hp hz hbig hb hc)
  clear hp hz hbig hb hc eg
  go_enter Tryd.func72, Tryd.ntmps72
  go_wp2_with (go_at_call 75; refine (C.out ()).mono ?_; rintro e w' ⟨rfl, hb'⟩)
  go_ret
  exact ⟨rfl, hb'⟩

set_option maxHeartbeats 4000000 in
/-- areRows where the number of rows is in bounds. -/
theorem rows_in (b off c0 : Nat) (l0 : List ByteArray) (most : Int) (w : World) (hp : 0 < l0.length) (hbl : b < w.heap.size) (hbig : l0.length ≤ 9223372036854775807) (hc : ∀ j, j < l0.length → w.cell? ⟨b, off + j, none⟩ = some (.string l0[j]!)) (hs : ∀ j, j < l0.length → (l0[j]!).size ≤ 140737488351232)
    (hw : decide (1 ≤ (l0.length : Int) ∧ (l0.length : Int) ≤ most) = true) :
    Calls Tryd.prog 62 #[.slice (some ⟨b, off, none⟩) l0.length c0, .int .i64 most, .string ⟨#[48, 49, 50, 51, 52, 53, 54, 55, 56, 57]⟩] w fun e w' => e = .returned (.bool (!(l0.any (badRow ((l0[0]!).size : Int) most)))) ∧ Below w.heap.size w w' := by
  have C : ∀ W, Calls Tryd.prog 52 #[.int .i64 (l0.length : Int), .int .i64 1, .int .i64 most] W fun e w' => e = .returned (.bool true) ∧ Drawn0 W w' := fun W => impl_within.calls _ _ _ _ W (by rw [within_eq, hw])
  have D : ∀ W : World, Below w.heap.size w W → w.heap.size + 2 < W.heap.size → W.cell? ⟨w.heap.size, 0, none⟩ = some (.slice (some ⟨b, off, none⟩) l0.length c0) → W.cell? ⟨w.heap.size + 1, 0, none⟩ = some (.int .i64 most) → W.cell? ⟨w.heap.size + 2, 0, none⟩ = some (.string ⟨#[48, 49, 50, 51, 52, 53, 54, 55, 56, 57]⟩) →
      Calls Tryd.prog 72 #[.slice (some ⟨b, off, none⟩) l0.length c0, .func (.func 73) #[] #[.pointer (some ⟨w.heap.size, 0, none⟩), .pointer (some ⟨w.heap.size + 1, 0, none⟩), .pointer (some ⟨w.heap.size + 2, 0, none⟩)]] W fun e w' => e = .returned (.bool (l0.any (badRow ((l0[0]!).size : Int) most))) ∧ Below W.heap.size W w' := by
    intro W hb hsz h0 h1 h2
    have hc' : ∀ j, j < l0.length → W.cell? ⟨b, off + j, none⟩ = some (.string l0[j]!) := fun j hj => (hb.cell (p := ⟨b, off + j, none⟩) hbl).trans (hc j hj)
    have := strs_ContainsFunc (badRow ((l0[0]!).size : Int) most) 73 #[.pointer (some ⟨w.heap.size, 0, none⟩), .pointer (some ⟨w.heap.size + 1, 0, none⟩), .pointer (some ⟨w.heap.size + 2, 0, none⟩)] (enters_of Tryd.func73 (by kernel_rfl) rfl) b off l0.length c0 l0 W
      (fun W2 j hj hb2 => by
        have g0 := (hb2.cell (p := ⟨w.heap.size, 0, none⟩) (by simp; omega)).trans h0
        have g1 := (hb2.cell (p := ⟨w.heap.size + 1, 0, none⟩) (by simp; omega)).trans h1
        have g2 := (hb2.cell (p := ⟨w.heap.size + 2, 0, none⟩) (by simp; omega)).trans h2
        have g3 := (hb2.cell (p := ⟨b, off + 0, none⟩) (Nat.lt_of_lt_of_le hbl hb.size)).trans (hc' 0 hp)
        rw [Nat.add_zero] at g3
        exact (lit_any g0 hp g3 g1 g2 (hs j hj)).mono fun e w' ⟨he, hb3⟩ => ⟨he, hb2.trans (hb3.mono hb2.size)⟩)
      (Nat.le_refl _) hbig (Nat.lt_of_lt_of_le hbl hb.size) hc'
    rw [List.take_length] at this
    exact this
  generalize l0.any (badRow ((l0[0]!).size : Int) most) = r at D ⊢
  have HC := Lib.hid C
  have HD := Lib.hid D
  clear C D hw hc hs
  go_enter Tryd.func62, Tryd.ntmps62
  go_wp2_with (first | (go_at_call 52; refine (HC.out _).mono ?_; rintro e w' ⟨rfl, ⟨q, rfl⟩⟩) | (go_at_call 72; refine (HD.out _ (pw_below_drewN ((((Below.refl _ _).alloc (Nat.le_refl _) _).alloc (by simp) _).alloc (by simp; omega) _) _) (by simp) (by first | (simp; done) | (go_simp; done)) (by first | (simp; done) | (go_simp; done)) (by first | (simp; done) | (go_simp; done))).mono ?_; rintro e w' ⟨rfl, hb'⟩))
  go_ret
  exact ⟨rfl, (pw_below_drewN ((((Below.refl _ _).alloc (Nat.le_refl _) _).alloc (by simp) _).alloc (by simp; omega) _) _).trans (hb'.mono (by simp; omega))⟩

set_option maxHeartbeats 4000000 in
theorem rows_out (A0 : Option Addr) (c0 : Nat) (l0 : List ByteArray) (most : Int) (w : World) (hw : decide (1 ≤ (l0.length : Int) ∧ (l0.length : Int) ≤ most) = false) :
    Calls Tryd.prog 62 #[.slice A0 l0.length c0, .int .i64 most, .string ⟨#[48, 49, 50, 51, 52, 53, 54, 55, 56, 57]⟩] w fun e w' => e = .returned (.bool false) ∧ Below w.heap.size w w' := by
  have C : ∀ W, Calls Tryd.prog 52 #[.int .i64 (l0.length : Int), .int .i64 1, .int .i64 most] W fun e w' => e = .returned (.bool false) ∧ Drawn0 W w' := fun W => impl_within.calls _ _ _ _ W (by rw [within_eq, hw])
  have HC := Lib.hid C
  clear C hw
  go_enter Tryd.func62, Tryd.ntmps62
  go_wp2_with (go_at_call 52; refine (HC.out _).mono ?_; rintro e w' ⟨rfl, ⟨q, rfl⟩⟩)
  go_ret
  exact ⟨rfl, pw_below_drewN ((((Below.refl _ _).alloc (Nat.le_refl _) _).alloc (by simp) _).alloc (by simp; omega) _) _⟩

set_option maxHeartbeats 4000000 in
theorem impl_AreNuts.calls (A0 : Option Addr) (c0 : Nat) (l0 : List (ByteArray)) (r : Bool) (w : World) (hr0 : Kd.C Kd.string w A0 l0.length l0) (hc0 : l0.length ≤ c0) (h : impl_AreNuts.f l0 = some r) :
    Calls Tryd.prog 37 #[.slice A0 l0.length c0] w fun e w' => e = .returned (.bool r) ∧ Below w.heap.size w w' := by
  unfold impl_AreNuts.f at h
  by_cases hs : (l0.all fun s => decide (s.size ≤ 140737488351232)) = true
  · rw [if_pos hs] at h
    obtain rfl := Option.some.inj h
    clear h
    have hs' : ∀ j, j < l0.length → (l0[j]!).size ≤ 140737488351232 := fun j hj => by
      rw [getElem!_pos l0 j hj]
      exact of_decide_eq_true (List.all_eq_true.1 hs _ (List.getElem_mem hj))
    have R : ∀ W, Below w.heap.size w W → Calls Tryd.prog 62 #[.slice A0 l0.length c0, .int .i64 8, .string ⟨#[48, 49, 50, 51, 52, 53, 54, 55, 56, 57]⟩] W fun e w' => e = .returned (.bool (nutsB l0)) ∧ Below W.heap.size W w' := by
      intro W hb
      unfold nutsB
      cases hw : decide (1 ≤ (l0.length : Int) ∧ (l0.length : Int) ≤ 8) with
      | false =>
        rw [Bool.false_and]
        exact rows_out A0 c0 l0 8 W hw
      | true =>
        rw [Bool.true_and]
        have hp : 0 < l0.length := by
          have := of_decide_eq_true hw
          omega
        obtain ⟨b, off, rfl, hbl, hc⟩ := Open.C_at hr0 hp
        exact rows_in b off c0 l0 8 W hp (Nat.lt_of_lt_of_le hbl hb.size) hr0.2.1 (fun j hj => (hb.cell (p := ⟨b, off + j, none⟩) hbl).trans (hc j hj)) hs' hw
    generalize nutsB l0 = r at R ⊢
    have HR := Lib.hid R
    clear R hs hs' hr0 hc0
    go_enter Tryd.func37, Tryd.ntmps37
    go_wp2_with (go_at_call 62; refine (HR.out _ (Below.refl _ _)).mono ?_; rintro e w' ⟨rfl, hb'⟩)
    go_ret
    exact ⟨rfl, hb'⟩
  · rw [if_neg hs] at h
    simp at h
end Go.Proofs.YtedpdfmaccoinaaDoor.P
