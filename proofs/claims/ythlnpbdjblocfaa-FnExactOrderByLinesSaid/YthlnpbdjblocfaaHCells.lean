/- Slices that came in, read cell by cell: the form in which the library's contracts ask it. -/
import Derived.Test.YthlnpbdjblocfaaWMore
import Derived.RowKit
namespace Go.Proofs.Ythlnpbdjblocfaa.Open
open Go.RowKit
open Go.Proofs.YthlnpbdjblocfaaW.PrintWords
theorem C_at {α : Type} [Inhabited α] {enc : α → Value} {h1 : ∀ x, (enc x).oneCell' = true} {w : World} {A : Option Addr} {l : List α} (h : (Kd.scalar enc h1).C w A l.length l) (hp : 0 < l.length) :
    ∃ b off, A = some ⟨b, off, none⟩ ∧ b < w.heap.size ∧ ∀ j, j < l.length → w.cell? ⟨b, off + j, none⟩ = some (enc l[j]!) := by
  obtain ⟨ad, e, hc⟩ := h.2.2 hp
  have all : ∀ j, j < l.length → w.cell? (ad.add j) = some (enc l[j]!) := by
    intro j hj
    obtain ⟨c, hl, hk, hcell⟩ := hc j l[j] (List.getElem?_eq_getElem hj)
    have hk' : c = [enc l[j]] := hk
    subst hk'
    have := hcell 0 _ rfl
    rw [getElem!_pos l j hj]
    simpa [Kd.scalar] using this
  have h0 := all 0 hp
  obtain ⟨b, off, spot⟩ := ad
  have hspot : spot = none := by simpa [Addr.add] using World.cell?_spot h0
  subst hspot
  refine ⟨b, off, e, by simpa [Addr.add] using World.block_lt_of_cell? w _ h0, fun j hj => ?_⟩
  have := all j hj
  by_cases hj0 : j = 0
  · subst hj0
    simpa [Addr.add] using this
  · simpa [Addr.add, hj0] using this
end Go.Proofs.Ythlnpbdjblocfaa.Open
