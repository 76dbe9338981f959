/- Opening a law's arguments: slices of strings and of structs read as lists, with the bounds that the form's reach gives. Conditions: the argument reads as data of its type. -/
import Derived.Test.YthlnpbdjblocfaaWMore
import Derived.Test.YthlnpbdjblocfaaWSized
import Derived.Deep.Slices
import Derived.SliceStrings
import Derived.SizedLaws
import Derived.RowKit
namespace Go.Proofs.Ythlnpbdjblocfaa.Open
open Go.ChangeShapes Go.WideShapes Go.RowKit Go.Deep
open Go.Proofs.YthlnpbdjblocfaaW.PrintWords

section
variable {H : Type} {enc : TypeId × Value → H} {P : Program} {W : World} {base : Nat} {spare : Nat → Bool} {held : Bool} {t e : TypeId} {a : Option Addr} {len cap : Nat} {d : DataW H} {ps : List MemPlace}

theorem open_rows {α : Type} [Inhabited α] (kd : Kd α) (wfp : α → Prop) (hu : P.underlying t = some (.slice e)) (hc : P.cellsOf e = kd.sz)
    (each : ∀ n cs y, DataW.trod enc P W base spare held n e cs = some y → ∃ x, kd.K W x cs ∧ wfp x)
    (h : DataW.Trod enc P W base spare held t (.slice a len cap) d ps) :
    ∃ l : List α, l.length = len ∧ l.length ≤ cap ∧ l.length ≤ maxLen ∧ kd.C W a l.length l ∧ ∀ x ∈ l, wfp x := by
  obtain ⟨fuel, hf⟩ := h
  rcases open_slice hu hf with ⟨hcs, _⟩ | ⟨a', len', cap', m, n, D, Pl, hcs, hb, hl, hm, hmm, _, hx⟩
  · simp [Value.cells] at hcs
    obtain ⟨rfl, rfl, rfl⟩ := hcs
    exact ⟨[], rfl, Nat.le_refl _, Nat.zero_le _, ⟨rfl, by simp, fun hn => absurd hn (by simp)⟩, fun x hx => by simp at hx⟩
  · simp [Value.cells] at hcs
    obtain ⟨rfl, rfl, rfl⟩ := hcs
    have hlm : len ≤ m := by
      rw [hmm]
      split
      · exact hl
      · exact Nat.le_refl _
    have hall : ∀ i, i < len → ∃ x : α, ∃ cs', W.cells? base (a'.add (i * kd.sz)) kd.sz = some cs' ∧ kd.K W x cs' ∧ wfp x := by
      intro i hi
      obtain ⟨cs', h1, h2⟩ := hx i (Nat.lt_of_lt_of_le hi hlm)
      rw [hc] at h1
      obtain ⟨x, hk, hw⟩ := each _ _ _ h2
      exact ⟨x, cs', h1, hk, hw⟩
    obtain ⟨f, hf'⟩ := choose_lt hall
    have hlen : ((List.range len).map f).length = len := by simp
    refine ⟨(List.range len).map f, hlen, by rw [hlen]; exact hl, by rw [hlen]; exact Nat.le_trans hl hm, ?_, ?_⟩
    · refine ⟨rfl, by rw [hlen]; unfold maxLen at hm; omega, fun _ => ⟨a', rfl, fun j p hj => ?_⟩⟩
      have hj2 : j < len := by
        have := (List.getElem?_eq_some_iff.1 hj).1
        rwa [hlen] at this
      have hp : p = f j := by
        rw [List.getElem?_map, List.getElem?_range hj2] at hj
        simpa using hj.symm
      subst hp
      obtain ⟨cs', h1, hk, _⟩ := hf' j hj2
      obtain ⟨_, h3, h4⟩ := World.cells?_some h1
      refine ⟨cs', h3, hk, fun i u hu => ?_⟩
      have hi : i < kd.sz := by
        have := (List.getElem?_eq_some_iff.1 hu).1
        omega
      rw [← Deep.add_add, h4 i hi]
      exact hu
    · intro x hx
      obtain ⟨i, hi, rfl⟩ := List.mem_map.1 hx
      obtain ⟨_, _, _, hw⟩ := hf' i (List.mem_range.1 hi)
      exact hw

theorem sized_rows {ts : List TypeId} {ds : List (DataW H)} {j : Nat} (hsz : (DataW.weightsEach P ts ds).all (· ≤ reachBytes) = true) (ht : ts[j]? = some t) (hd : ds[j]? = some d) (hu : P.underlying t = some (.slice e)) {B : Nat} (hB : P.bytesOf e = B)
    (h : DataW.Trod enc P W base spare held t (.slice a len cap) d ps) : len * B ≤ 140737488351232 := by
  obtain ⟨fuel, hf⟩ := h
  rcases open_slice hu hf with ⟨hcs, _⟩ | ⟨a', len', cap', m, n, D, Pl, hcs, hb, hl, hm, hmm, hx, _⟩
  · simp [Value.cells] at hcs
    obtain ⟨rfl, rfl, rfl⟩ := hcs
    simp
  · simp [Value.cells] at hcs
    obtain ⟨rfl, rfl, rfl⟩ := hcs
    obtain ⟨hx, _⟩ := Prod.mk.inj hx
    subst hx
    have z := sized_slice hsz ht hd hu
    rw [hB] at z
    have h1 : len ≤ ((List.range len).map D).length + ((List.range (m - len)).map fun j => D (len + j)).length := by simp
    exact Nat.le_trans (Nat.mul_le_mul_right _ h1) z

theorem weights_all {x : DataW H} : ∀ {l : List (DataW H)}, x ∈ l → ∀ n ∈ x.weights P e, n ∈ DataW.weightsAll P e l
  | y :: r, hx, n, hn => by
    rw [DataW.weightsAll, List.mem_append]
    rcases List.mem_cons.1 hx with rfl | hx
    · exact .inl hn
    · exact .inr (weights_all hx n hn)

theorem open_strs {ts : List TypeId} {ds : List (DataW H)} {j : Nat} (hsz : (DataW.weightsEach P ts ds).all (· ≤ reachBytes) = true) (ht : ts[j]? = some t) (hd : ds[j]? = some d) (hu : P.underlying t = some (.slice e)) (he : P.underlying e = some .string) (hc : P.cellsOf e = 1)
    (h : DataW.Trod enc P W base spare held t (.slice a len cap) d ps) :
    ∃ l : List ByteArray, l.length = len ∧ l.length ≤ cap ∧ l.length ≤ maxLen ∧ Kd.string.C W a l.length l ∧ ∀ s ∈ l, s.size ≤ 140737488351232 := by
  obtain ⟨fuel, hf⟩ := h
  rcases open_strings hu he hc hf with ⟨hcs, _⟩ | ⟨a', len', cap', ss, hcs, hb, hl, hm, hss, hx, hcell, hws⟩
  · simp [Value.cells] at hcs
    obtain ⟨rfl, rfl, rfl⟩ := hcs
    exact ⟨[], rfl, Nat.le_refl _, Nat.zero_le _, ⟨rfl, by simp, fun hn => absurd hn (by simp)⟩, fun x hx => by simp at hx⟩
  · simp [Value.cells] at hcs
    obtain ⟨rfl, rfl, rfl⟩ := hcs
    obtain ⟨hx, _⟩ := Prod.mk.inj hx
    subst hx
    have hlm : len ≤ ss.length := by
      rw [hss]
      split
      · exact hl
      · exact Nat.le_refl _
    have hlen : (ss.take len).length = len := by simp; omega
    refine ⟨ss.take len, hlen, by rw [hlen]; exact hl, by rw [hlen]; exact Nat.le_trans hl hm, ?_, ?_⟩
    · refine ⟨rfl, by rw [hlen]; unfold maxLen at hm; omega, fun _ => ⟨a', rfl, fun j p hj => ?_⟩⟩
      have hj2 : j < len := by
        have := (List.getElem?_eq_some_iff.1 hj).1
        rwa [hlen] at this
      refine ⟨[.string p], rfl, rfl, fun i u hu => ?_⟩
      have hi : i = 0 := by
        have := (List.getElem?_eq_some_iff.1 hu).1
        simp at this
        exact this
      subst hi
      have hu' : u = .string p := by simpa using hu.symm
      subst hu'
      have := hcell j (by omega)
      rw [List.getElem?_take_of_lt hj2] at hj
      rw [List.getD_eq_getElem?_getD, hj] at this
      simpa [Kd.string, Kd.scalar] using this
    · intro s hs
      have hmem : (DataW.lit (.string s.data.toList) : DataW H) ∈ strs (ss.take len) := by
        unfold strs
        exact List.mem_map.2 ⟨s, hs, rfl⟩
      have hw := List.all_eq_true.1 hsz s.data.toList.length (DataW.weights_mem_each ht hd _ (by
        simp only [DataW.weights, hu]
        exact List.mem_cons_of_mem _ (List.mem_append.2 (.inl (weights_all hmem _ (by simp [DataW.weights]))))))
      have hw2 : s.data.toList.length ≤ reachBytes := by simpa using hw
      have : s.size = s.data.toList.length := rfl
      rw [this]
      exact hw2
end
end Go.Proofs.Ythlnpbdjblocfaa.Open
