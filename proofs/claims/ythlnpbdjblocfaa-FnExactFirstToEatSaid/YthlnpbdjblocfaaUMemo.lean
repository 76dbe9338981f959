/- A map that a call keeps as its memory: what a look-up and a store do to it. Conditions: the keys are among a list; the map's key type is one of Go's. -/
import Derived.Test.YthlnpbdjblocfaaWMore
import Derived.Maps.OwnSet
import Derived.DeepKeys4
import Derived.MapViews
namespace Go.Proofs.Ythlnpbdjblocfaa.Mem
open Go Go.Maps Go.RowKit Go.WideShapes
open Go.WideElems (Fit rd rg pl rd_val elemAt)
open Go.Proofs.YthlnpbdjblocfaaW.PrintWords
set_option linter.unusedVariables false
/-- An element, as it stands. -/
def rawElem (v : Value) : Option (DataW Value × List MemPlace) := some (.held v, [])
theorem subset_length {α : Type} : ∀ (l KS : List α), l.Pairwise (fun p q => p ≠ q) → (∀ x ∈ l, x ∈ KS) → l.length ≤ KS.length
  | [], _, _, _ => Nat.zero_le _
  | x :: l, KS, hd, hs => by
    obtain ⟨h1, h2⟩ := List.pairwise_cons.1 hd
    obtain ⟨s, t, rfl⟩ := List.append_of_mem (hs x (by simp))
    have := subset_length l (s ++ t) h2 (fun y hy => by
      have hy' := hs y (by simp [hy])
      rcases List.mem_append.1 hy' with h | h
      · exact List.mem_append.2 (.inl h)
      · rcases List.mem_cons.1 h with rfl | h
        · exact absurd rfl (h1 _ hy)
        · exact List.mem_append.2 (.inr h))
    simp only [List.length_append, List.length_cons] at *
    omega
section
variable {H : Type} {P : Program} {k : TypeId} {R : Value → Option (DataW H × List MemPlace)} {w : World} {b n : Nat} {D : DataW H}
/-- A map whose keys are all among a list has no more entries than the list. -/
theorem tight (h : w.ownsMap P k R b n D) (K : Keyed P k) (KS : List Lit) (hk : ∀ l, Maps.has D l = true → l ∈ KS) : w.ownsMap P k R b KS.length D := by
  obtain ⟨es, clock, hb, F, hs, rfl⟩ := h
  refine ⟨es, clock, hb, F, ?_, rfl⟩
  have e1 : es.size = (((es.toList.map (rg P k R)).foldr DataW.insert []).map (·.1)).length := by
    rw [List.length_map, length_sorted]; simp
  rw [e1]
  refine subset_length _ KS ?_ ?_
  · rw [List.pairwise_map]
    exact ((sorted_perm _).pairwise_iff (fun {_ _} hne => Ne.symm hne)).2 (Maps.fit_apart K F)
  · intro l hl
    obtain ⟨p, hp, rfl⟩ := List.mem_map.1 hl
    refine hk _ ?_
    rw [Maps.has_eq]
    refine List.any_eq_true.2 ⟨p, hp, WideAt.sameKey_self ?_⟩
    obtain ⟨v, hv⟩ := Maps.fit_keys F p ((sorted_perm _).mem_iff.1 hp)
    exact K.key hv
end
/-- Block M is a map; whatever it holds at an x's key is right for x. -/
structure Memo {α : Type} (P : Program) (k : TypeId) (M : Nat) (KS : List Lit) (key : α → Lit) (G : α → Value → Prop) (W : World) : Prop where
  out : ∃ D : DataW Value, W.ownsMap P k rawElem M KS.length D ∧ (∀ l, Maps.has D l = true → l ∈ KS) ∧ ∀ x, Maps.has D (key x) = true → ∃ v, (∀ z, D.atKey (key x) z = .held v) ∧ G x v
section
variable {α : Type} {P : Program} {k e t : TypeId} {M : Nat} {KS : List Lit} {key : α → Lit} {G G' : α → Value → Prop} {W W' : World}
theorem Memo.block (h : Memo P k M KS key G W) : ∃ es clock, W.heap[M]? = some (.map es clock) := by
  obtain ⟨D, ⟨es, clock, hb, _⟩, _⟩ := h.out
  exact ⟨es, clock, hb⟩
theorem Memo.lt (h : Memo P k M KS key G W) : M < W.heap.size := by
  obtain ⟨es, clock, hb⟩ := h.block
  exact (Array.getElem?_eq_some_iff.1 hb).1
theorem Memo.ne (h : Memo P k M KS key G W) {g : Nat} {cs : Array Value} {ty : TypeId} {fz : Nat × Nat} (hg : W.heap[g]? = some (.cells cs ty fz)) : g ≠ M := by
  rintro rfl
  obtain ⟨es, clock, hb⟩ := h.block
  rw [hb] at hg
  cases hg
theorem Memo.kept (h : Memo P k M KS key G W) {row : Option Nat} (hg : W.grownBy W' row) (hne : some M ≠ row) : Memo P k M KS key G W' := by
  obtain ⟨D, h1, h2⟩ := h.out
  exact ⟨D, h1.kept hg hne, h2⟩
theorem Memo.mono (h : Memo P k M KS key G W) (hG : ∀ x v, G x v → G' x v) : Memo P k M KS key G' W := by
  obtain ⟨D, h1, h2, h3⟩ := h.out
  exact ⟨D, h1, h2, fun x hx => let ⟨v, a, b⟩ := h3 x hx; ⟨v, a, hG x v b⟩⟩
theorem Memo.made (W : World) (P : Program) (k : TypeId) (KS : List Lit) (key : α → Lit) (G : α → Value → Prop) : Memo P k W.heap.size KS key G (W.alloc (.map #[] 0)) :=
  ⟨.map [], (World.ownsMap_made W P k rawElem).mono (Nat.zero_le _), fun l h => by simp [Maps.has_eq] at h, fun x h => by simp [Maps.has_eq] at h⟩
theorem grown_below {w w' : World} (h : Below w.heap.size w w') (row : Option Nat) : w.grownBy w' row := ⟨h.os, h.tape, h.output, h.size, fun i hi _ => h.block i hi⟩
theorem grown_drewN (w : World) (n : Nat) (row : Option Nat) : w.grownBy (w.drewN n) row := grown_below (pw_below_drewN (Below.refl _ _) n) row
theorem grown_trans {a b c : World} {row : Option Nat} (h : a.grownBy b row) (k : b.grownBy c row) : a.grownBy c row :=
  ⟨k.os.trans h.os, k.tape.trans h.tape, k.output.trans h.output, Nat.le_trans h.size k.size, fun i hi hn => (k.block i (Nat.lt_of_lt_of_le hi h.size) hn).trans (h.block i hi hn)⟩
/-- A store into a block that is younger than the first world. -/
theorem grown_set {a b : World} {row : Option Nat} (h : a.grownBy b row) {g : Nat} (hg : a.heap.size ≤ g) (i : Nat) (u : Value) : a.grownBy (b.setCell ⟨g, i, none⟩ u) row := by
  have hb : Below a.heap.size b (b.setCell ⟨g, i, none⟩ u) := (Below.refl _ _).setCell hg _
  exact ⟨hb.os.trans h.os, hb.tape.trans h.tape, hb.output.trans h.output, Nat.le_trans h.size hb.size, fun j hj hn => (hb.block j hj).trans (h.block j hj hn)⟩
theorem gr_alloc {a b : World} {row : Option Nat} (h : a.grownBy b row) (o : Obj) : a.grownBy (b.alloc o) row := grown_trans h (World.grownBy_alloc b o row)
theorem gr_drew {a b : World} {row : Option Nat} (h : a.grownBy b row) : a.grownBy b.drew row := ⟨h.os, h.tape, h.output, h.size, h.block⟩
theorem gr_drewN {a b : World} {row : Option Nat} (h : a.grownBy b row) (n : Nat) : a.grownBy (b.drewN n) row := ⟨h.os, h.tape, h.output, h.size, h.block⟩
theorem me_alloc {W : World} (h : Memo P k M KS key G W) (o : Obj) : Memo P k M KS key G (W.alloc o) := h.kept (World.grownBy_alloc W o none) (by simp)
theorem me_drew {W : World} (h : Memo P k M KS key G W) : Memo P k M KS key G W.drew := h.kept (gr_drew (World.grownBy.refl W none)) (by simp)
theorem me_drewN {W : World} (h : Memo P k M KS key G W) (n : Nat) : Memo P k M KS key G (W.drewN n) := h.kept (grown_drewN W n none) (by simp)
theorem me_below {W W' : World} (h : Memo P k M KS key G W) (hb : Below W.heap.size W W') : Memo P k M KS key G W' := h.kept (grown_below hb none) (by simp)
theorem me_set {W : World} (h : Memo P k M KS key G W) {g : Nat} (hg : g ≠ M) (i : Nat) (u : Value) : Memo P k M KS key G (W.setCell ⟨g, i, none⟩ u) := by
  obtain ⟨D, h1, h2⟩ := h.out
  exact ⟨D, h1.setCell (a := ⟨g, i, none⟩) (Ne.symm hg) u, h2⟩
end
section
variable {α : Type} {P : Program} {ops : Array Oper} {rest : List Oper} {o : Oper} {a : Act} {Q : Exit → Act → World → Prop} {W : World} {k : TypeId} {M : Nat} {KS : List Lit} {key : α → Lit} {G : α → Value → Prop}
/-- 'v, ok := m[x]'. -/
theorem wp_look (hg : o.guard = none) (m x : Operand) (t : TypeId) (hop : o.op = Op.lookup t m x true)
    (e : TypeId) (K : Keyed P k) (ht : P.underlying t = some (.map k e)) {z : Value} (hz : (zeroValue e).run P W = .ok z W)
    (hm : a.eval m = .map (some M)) (h : Memo P k M KS key G W) (y : α) (kv : Value) (hx : a.eval x = kv) (hkey : keyOf P k kv = some (key y))
    (hit : ∀ v, G y v → wpList P ops Q rest (a.put o.dst (.tuple #[v, .bool true])) W)
    (miss : wpList P ops Q rest (a.put o.dst (.tuple #[z, .bool false])) W) :
    wpList P ops Q (o :: rest) a W := by
  obtain ⟨D, h1, h2, h3⟩ := h.out
  refine wpList_lookup_own_ok W hg m x t hop k e K ht rawElem hz (.held z) [] rfl M KS.length D hm h1 kv (key y) hx hkey ?_
  intro v ps hv
  cases hh : Maps.has D (key y) with
  | true =>
    obtain ⟨v', hat, hG⟩ := h3 y hh
    rw [hat] at hv
    obtain rfl : v = v' := by
      have := congrArg (fun q : Option (DataW Value × List MemPlace) => q.map (·.1)) hv
      simp [rawElem] at this
      exact this
    exact hit v hG
  | false =>
    rw [Maps.atKey_of_not_has hh] at hv
    obtain rfl : v = z := by
      have := congrArg (fun q : Option (DataW Value × List MemPlace) => q.map (·.1)) hv
      simp [rawElem] at this
      exact this
    exact miss
/-- 'm[x] = v'. -/
theorem wp_store (hg : o.guard = none) (m x v : Operand) (t : TypeId) (hop : o.op = Op.mapUpdate t m x v)
    (e : TypeId) (K : Keyed P k) (ht : P.underlying t = some (.map k e)) (hn : KS.length < maxLen)
    (hm : a.eval m = .map (some M)) (h : Memo P k M KS key G W) (y : α) (kv val : Value) (hx : a.eval x = kv) (hv : a.eval v = val) (hkey : keyOf P k kv = some (key y))
    (hin : key y ∈ KS) (hsame : ∀ y', key y' = key y → G y' val)
    (hK : ∀ W', Memo P k M KS key G W' → W.grownBy W' (some M) → wpList P ops Q rest (a.put o.dst undef) W') :
    wpList P ops Q (o :: rest) a W := by
  obtain ⟨D, h1, h2, h3⟩ := h.out
  refine wpList_mapUpdate_own W hg m x v t hop k e K ht rawElem M KS.length D hm h1 hn kv val (key y) hx hv hkey (.held val) [] rfl ?_
  intro W' hown hgr
  have hD : IsMap D := h1.isMap
  have hkl : WideAt.IsKeyLit (key y) := K.key hkey
  have hks : ∀ l, Maps.has (D.put (key y) (.held val)) l = true → l ∈ KS := by
    intro l hl
    by_cases e : l = key y
    · rw [e]; exact hin
    · rw [Maps.has_put_other e] at hl
      exact h2 l hl
  refine hK W' ⟨D.put (key y) (.held val), tight hown K KS hks, hks, ?_⟩ hgr
  intro x' hx'
  by_cases e : key x' = key y
  · refine ⟨val, fun z => ?_, hsame x' e⟩
    rw [e]; exact Maps.atKey_put_same hD hkl _ z
  · rw [Maps.has_put_other e] at hx'
    obtain ⟨v', hat, hG⟩ := h3 x' hx'
    exact ⟨v', fun z => by rw [Maps.atKey_put_other e]; exact hat z, hG⟩
end
end Go.Proofs.Ythlnpbdjblocfaa.Mem
