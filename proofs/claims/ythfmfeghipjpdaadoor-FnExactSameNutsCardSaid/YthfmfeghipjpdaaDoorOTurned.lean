/- impl.turned: what the call comes to. -/
import Derived.Test.YthfmfeghipjpdaaDoorOBack
import Derived.Test.YthfmfeghipjpdaaDoorPx0
import Derived.RangeFuncNested
import Derived.RangeFuncBound
import Derived.RangeFuncCalls
import Derived.Shelf.RegionOpen
import Derived.Maps.AppendAt
import Derived.BigRegionIn
import Derived.Deep.AppendLies
import Derived.Lib.Hide
namespace Go.Proofs.YthfmfeghipjpdaaDoor.P
open Go.RowKit Go.Shelf Go.Proofs.YthfmfeghipjpdaaDoorW.PrintWords Go.Proofs.YthfmfeghipjpdaaDoorW.PrintLast Go.Proofs.YthfmfeghipjpdaaDoorW.PrintMore Go.Proofs.YthfmfeghipjpdaaDoor.Back
attribute [local go_sem] Oper.semAt_some
/-- append at rows of bytes, held back from the walk (which would lay its body open). -/
def heldAppend (args : Array Value) : Sem Value := Builtin.append_ #[73, 73] 73 args
theorem builtin_append_held (cs : Array Bool) (args : Array Value) : builtin .append #[73, 73] 73 cs args = (do pure (.value (← heldAppend args))) := rfl
attribute [local go_sem ↓ high] builtin_append_held
set_option linter.unusedVariables false
set_option linter.unusedSimpArgs false
/-- Column x of the rows, from the last row up. -/
def colB (l : List ByteArray) (x : Nat) : List Int := l.reverse.map fun s => bt s (x : Int)
def turnB (l : List ByteArray) (wd : Nat) : List ByteArray := (List.range wd).map fun x => strOfNums (colB l x)
def Marks (n₀ : Nat) (W : World) (Ds : List Nat) : Prop := Ds.Nodup ∧ ∀ D ∈ Ds, n₀ ≤ D ∧ W.heap[D]? = some (.deferred (some []))
theorem own_belowW {W Y : World} {base : Nat} {e : TypeId} {size n : Nat} {v : Value} {xs : List Value} (h : W.ownsRow base e size v n xs) (hb : Below W.heap.size W Y) : Y.ownsRow base e size v n xs := by
  refine ⟨h.1, ?_⟩
  rcases h.2 with h0 | ⟨g, cap, cur, rfl, hg, hgb, r⟩
  · exact .inl h0
  · exact .inr ⟨g, cap, cur, rfl, hg, (hb.block g (Array.getElem?_eq_some_iff.1 hgb).1).trans hgb, r⟩
set_option maxHeartbeats 4000000 in
set_option maxRecDepth 100000 in
theorem turned_calls (b off c0 : Nat) (l : List ByteArray) (wd : Nat) (w : World) (h1 : 1 ≤ l.length) (h8 : l.length ≤ 8) (hw1 : 1 ≤ wd) (hw8 : wd ≤ 8) (hwd : ∀ s ∈ l, s.size = wd) (hb : b < w.heap.size) (hc : ∀ j, j < l.length → w.cell? ⟨b, off + j, none⟩ = some (.string l[j]!)) :
    Calls Tryd.prog 62 #[.slice (some ⟨b, off, none⟩) l.length c0] w fun e w' => ∃ v, e = .returned v ∧ w'.ownsRow w.heap.size 9 1 v wd ((turnB l wd).map Value.string) ∧ Below w.heap.size w w' := by
  refine (callsIn_wide (n := 9)).1 ?_
  refine callsIn_of_wp_marks Tryd.func62 rfl trivial ?_ rfl
  simp only [Tryd.ntmps62, List.size_toArray, List.length_cons, List.length_nil, Nat.reduceAdd, Nat.reduceSub, Array.replicate_succ, Array.replicate_zero, List.push_toArray, List.append_toArray, List.nil_append, List.cons_append]
  have hc0 : w.cell? ⟨b, off, none⟩ = some (.string l[0]!) := by have := hc 0 (by omega); rwa [Nat.add_zero] at this
  have hl0 : (l[0]!).size = wd := by rw [getElem!_pos l 0 (by omega)]; exact hwd _ (List.getElem_mem _)
  have hpos : 0 < l.length := by omega
  generalize l[0]! = s0 at hc0 hl0
  gi_wp2
  refine wpIn_loop (fun a' w' => ∃ (k : Nat) (ov : Value) (Ds : List Nat) (u4 u5 u7 u14 u15 u16 u17 u18 u19 u20 u21 u22 u23 u24 u25 u26 u27 u28 u29 u30 u31 u32 u33 : Value), a' = { tmps := (.slice (some ⟨b, off, none⟩) l.length c0 :: undef :: .slice none 0 0 :: ov :: u4 :: u5 :: undef :: u7 :: .slice (some ⟨w.heap.size, 0, none⟩) 0 0 :: .slice (some ⟨b, off, none⟩) l.length c0 :: .pointer (some ⟨b, off, none⟩) :: .string s0 :: .int .i64 (wd : Int) :: .int .i64 (k : Int) :: u14 :: u15 :: u16 :: u17 :: u18 :: u19 :: u20 :: u21 :: u22 :: u23 :: u24 :: u25 :: u26 :: u27 :: u28 :: u29 :: u30 :: u31 :: u32 :: u33 :: []).toArray, defers := Ds.map Back.mark } ∧ k ≤ wd ∧ w'.ownsRow w.heap.size 9 1 ov k (((turnB l wd).take k).map Value.string) ∧ Below w.heap.size w w' ∧ Marks w.heap.size w' Ds) (fun a' _ => wd - (intOf (a'.tmps.getD 13 undef)).toNat) ?start ?round
  case start =>
    refine ⟨0, .slice (some ⟨w.heap.size, 0, none⟩) 0 0, [], undef, undef, undef, undef, undef, undef, undef, undef, undef, undef, undef, undef, undef, undef, undef, undef, undef, undef, undef, undef, undef, undef, undef, rfl, Nat.zero_le _, ⟨by simp, .inr ⟨w.heap.size, 0, #[], rfl, Nat.le_refl _, World.alloc_heap_new w _, Nat.le_refl _, by decide, rfl, by simp⟩⟩, (Below.refl _ w).alloc (Nat.le_refl _) _, List.nodup_nil, fun D h => by cases h⟩
  case round =>
    rintro a' W ⟨k, ov, Ds, u4, u5, u7, u14, u15, u16, u17, u18, u19, u20, u21, u22, u23, u24, u25, u26, u27, u28, u29, u30, u31, u32, u33, rfl, hk, hrow, hB, hM⟩
    by_cases hlt : k < wd
    · have c1 : decide ((k : Int) < (wd : Int)) = true := decide_eq_true (by omega)
      have hki : (k : Int) < (wd : Int) := by omega
      gi_wp2_with (refine ⟨trivial, ?_⟩; gi_at_call 74; refine (back_in _ _ trivial rfl _ _ _ _).mono ?_; rintro e w' ⟨rfl, rfl⟩)
      obtain ⟨W0, hW0⟩ : ∃ W0, (((W.alloc (.cells #[.int .i64 (k : Int)] 3)).alloc (.cells #[] 5)).alloc (.cells #[.slice (some ⟨W.heap.size + 1, 0, none⟩) 0 0] 73)).alloc (.cells #[.slice (some ⟨b, off, none⟩) l.length c0] 22) = W0 := ⟨_, rfl⟩
      have hbW : b < W.heap.size := Nat.lt_of_lt_of_le hb hB.size
      have hsz0 : W0.heap.size = W.heap.size + 1 + 1 + 1 + 1 := by rw [← hW0]; simp
      have bX : Boxed W0 W.heap.size 3 (.int .i64 (k : Int)) := by rw [← hW0]; exact (((Boxed.new W 3 _).alloc _).alloc _).alloc _
      have bL : Boxed W0 (W.heap.size + 1 + 1) 73 (.slice (some ⟨W.heap.size + 1, 0, none⟩) 0 0) := by
        rw [← hW0]
        have := Boxed.new ((W.alloc (.cells #[.int .i64 (k : Int)] 3)).alloc (.cells #[] 5)) 73 (.slice (some ⟨W.heap.size + 1, 0, none⟩) 0 0)
        exact Boxed.alloc (by simpa using this) _
      have bS : Boxed W0 (W.heap.size + 1 + 1 + 1) 22 (.slice (some ⟨b, off, none⟩) l.length c0) := by
        rw [← hW0]
        have := Boxed.new (((W.alloc (.cells #[.int .i64 (k : Int)] 3)).alloc (.cells #[] 5)).alloc (.cells #[.slice (some ⟨W.heap.size + 1, 0, none⟩) 0 0] 73)) 22 (.slice (some ⟨b, off, none⟩) l.length c0)
        simpa using this
      have hBW : Below W.heap.size W W0 := by rw [← hW0]; exact ((((Below.refl _ W).alloc (Nat.le_refl _) _).alloc (by simp) _).alloc (by simp; omega) _).alloc (by simp; omega) _
      have rL : W0.ownsRow W.heap.size 5 1 (.slice (some ⟨W.heap.size + 1, 0, none⟩) 0 0) 0 [] := by
        refine ⟨by simp, .inr ⟨W.heap.size + 1, 0, #[], rfl, by omega, ?_, Nat.le_refl _, by decide, rfl, by simp⟩⟩
        rw [← hW0]
        have := World.alloc_heap_new (W.alloc (.cells #[.int .i64 (k : Int)] 3)) (.cells #[] 5)
        exact (Below.heap_alloc _ _ _ (by first | (simp; done) | (simp; omega))).trans ((Below.heap_alloc _ _ _ (by simp)).trans (by simpa using this))
      rw [hW0]
      have hlen0 : l[0]'hpos ∈ l := List.getElem_mem hpos
      let α := { x : Nat × ByteArray // x.2.size = wd }
      let g : Nat → α := fun j => if h : j < l.length then ⟨(j, l[j]), hwd _ (List.getElem_mem h)⟩ else ⟨(j, l[0]'hpos), hwd _ hlen0⟩
      have hg1 : ∀ j, j < l.length → (g j).1.1 = j := fun j hj => by simp only [g]; rw [dif_pos hj]
      have hg2 : ∀ j, j < l.length → (g j).1.2 = l[j]! := fun j hj => by simp only [g]; rw [dif_pos hj, getElem!_pos l j hj]
      have hcells : ∀ j, j < l.length → W0.cell? ⟨b, off + j, none⟩ = some (.string (g j).1.2) := fun j hj => by rw [hg2 j hj]; exact (hBW.cell (p := ⟨b, off + j, none⟩) hbW).trans ((hB.cell (p := ⟨b, off + j, none⟩) hb).trans (hc j hj))
      refine wpIn_rangeFunc_ownG (α := α) rfl (by decide) (gf := 88) (lb := #[.pointer (some ⟨W.heap.size + 1 + 1 + 1, 0, none⟩)]) rfl trivial (enters_of Tryd.func88 (by kernel_rfl) rfl)
        (back_stops (fun x : α => x.1.1) (fun x : α => x.1.2) Fence.wide (9 - 1) trivial rfl (by decide) (W.heap.size + 1 + 1 + 1) W.heap.size b off l.length c0 g hg1 (by omega) W0 (by omega) (by omega) hbW bS.cell hcells) KB.trans (KB.put (by omega)) (Below.refl _ _) (fun _ => rfl)
        (fun pre X => ((∃ v, Boxed X (W.heap.size + 1 + 1) 73 v ∧ X.ownsRow W.heap.size 5 1 v pre.length (nums .u8 (pre.map fun x => bt x.1.2 (k : Int))) ∧ True) ∧ Boxed X W.heap.size 3 (.int .i64 (k : Int)) ∧ Boxed X (W.heap.size + 1 + 1 + 1) 22 (.slice (some ⟨b, off, none⟩) l.length c0)) ∧ Below W.heap.size W X)
        (fun _ _ _ => False)
        (OwnFrom.and (Own.from (holdsRow_own W.heap.size (W.heap.size + 1 + 1) 73 5 1 (fun pre : List α => pre.length) (fun pre => nums .u8 (pre.map fun x => bt x.1.2 (k : Int))) (fun _ _ => True)) _ |>.and (OwnFrom.and (Own.from (boxed_own _ _ _) _) (Own.from (boxed_own _ _ _) _))) (ownFrom_below (Nat.le_refl _) (by omega)))
        (fun _ _ _ _ _ hs _ _ => hs)
        ⟨⟨⟨_, bL, rL, trivial⟩, bX, bS⟩, hBW⟩
        (fun x => { tmps := (.slice (some ⟨b, off, none⟩) l.length c0 :: undef :: .slice none 0 0 :: ov :: .pointer (some ⟨W.heap.size, 0, none⟩) :: .pointer (some ⟨W.heap.size + 1 + 1, 0, none⟩) :: undef :: .string x.1.2 :: .slice (some ⟨w.heap.size, 0, none⟩) 0 0 :: .slice (some ⟨b, off, none⟩) l.length c0 :: .pointer (some ⟨b, off, none⟩) :: .string s0 :: .int .i64 (wd : Int) :: .int .i64 (k : Int) :: .bool true :: .int .i64 (k : Int) :: .slice (some ⟨W.heap.size + 1, 0, none⟩) 0 0 :: .slice (some ⟨b, off, none⟩) l.length c0 :: .func (.func 88) #[] #[.pointer (some ⟨W.heap.size + 1 + 1 + 1, 0, none⟩)] :: .int .i64 (x.1.1 : Int) :: .string x.1.2 :: u21 :: u22 :: u23 :: u24 :: u25 :: u26 :: u27 :: u28 :: u29 :: u30 :: u31 :: u32 :: u33 :: []).toArray, defers := [] }) ?assign ?body ?done ?stop
      case assign =>
        intro l x W K hK
        gi_wp2
        exact hK
      case body =>
        rintro l2 pre x X ⟨⟨⟨v, hv, hrow2, _⟩, hX, hS⟩, hBX⟩ hlt2
        obtain ⟨⟨xi, s⟩, hxs⟩ := x
        have hxs' : s.size = wd := hxs
        have hc2 := hv.cell
        have hx2 := hX.cell
        have hc2a : ∀ o : Obj, (X.alloc o).cell? ⟨W.heap.size + 1 + 1, 0, none⟩ = some v := fun o => (hv.alloc o).cell
        have hx2a : ∀ o : Obj, (X.alloc o).cell? ⟨W.heap.size, 0, none⟩ = some (.int .i64 (k : Int)) := fun o => (hX.alloc o).cell
        have hc2b : ∀ o : Obj, (X.alloc o).drew.cell? ⟨W.heap.size + 1 + 1, 0, none⟩ = some v := fun o => (hv.alloc o).cell
        have hx2b : ∀ o : Obj, (X.alloc o).drew.cell? ⟨W.heap.size, 0, none⟩ = some (.int .i64 (k : Int)) := fun o => (hX.alloc o).cell
        have hkx : k < s.size := by omega
        have hkxi : (k : Int) < (s.size : Int) := by omega
        obtain ⟨i0, hi, hz0, hz1, hz2⟩ := info_parts info5
        have hbt : ∀ h : k < s.size, ((s[k]'h).toNat : Int) = bt s (k : Int) := fun h => bt_at s (k : Int) (by simpa using h)
        have hmx : Tryd.prog.follows .mixedOrders = true := by kernel_rfl
        have rowX : (X.drew.alloc (.cells #[.int .u8 (bt s (k : Int))] 5)).ownsRow W.heap.size 5 1 v pre.length (nums .u8 (pre.map fun x => bt x.1.2 (k : Int))) := World.ownsRow.alloc (show X.drew.ownsRow _ _ _ _ _ _ from hrow2) _
        obtain ⟨g', cap', w1, heq, hown', hgrow, _, _⟩ := run_append_lies (P := Tryd.prog) (w := X.drew.alloc (.cells #[.int .u8 (bt s (k : Int))] 5)) 73 73 W.heap.size 5 i0 (.int .u8 0) 1 1 Tryd.underlying73 hi hz0 hz1 hz2 rfl (by decide) v pre.length _ rowX ⟨X.heap.size, 0, none⟩ 1 1 [(.int .u8 (bt s (k : Int)))] rfl (cell_one_new X.drew _ _) (by simp [Value.oneCell']) (by decide) (by simp only [maxLen]; omega) (by omega) (by have := hBX.size; simp; omega) _ rfl
        have heq2 : (heldAppend #[v, .slice (some ⟨X.heap.size, 0, none⟩) 1 1]).run Tryd.prog (X.alloc (.cells #[.int .u8 (bt s (k : Int))] 5)).drew = .ok (.slice (some ⟨g', 0, none⟩) (pre.length + 1) cap') w1 := heq
        clear heq
        obtain ⟨hv1, hv2, hr2, hk2, hb2⟩ := (show Boxed X.drew _ _ _ from hv).appended (by decide) (show X.drew.ownsRow _ _ _ _ _ _ from hrow2) hBX.size (by omega) hown' hgrow
        have hc1 := hv1.cell
        have hf1 := hv1.frozen
        have hbX : Boxed (w1.setCell ⟨W.heap.size + 1 + 1, 0, none⟩ (.slice (some ⟨g', 0, none⟩) (pre.length + 1) cap')) W.heap.size 3 (.int .i64 (k : Int)) := (((show Boxed X.drew _ _ _ from hX).alloc _).kept hgrow ((show Boxed X.drew _ _ _ from hX).not_row (by decide) (show X.drew.ownsRow _ _ _ _ _ _ from hrow2))).other (by omega) _
        have hbS : Boxed (w1.setCell ⟨W.heap.size + 1 + 1, 0, none⟩ (.slice (some ⟨g', 0, none⟩) (pre.length + 1) cap')) (W.heap.size + 1 + 1 + 1) 22 (.slice (some ⟨b, off, none⟩) l.length c0) := (((show Boxed X.drew _ _ _ from hS).alloc _).kept hgrow ((show Boxed X.drew _ _ _ from hS).not_row (by decide) (show X.drew.ownsRow _ _ _ _ _ _ from hrow2))).other (by omega) _
        have fin : ownPostG W0.heap.size (KB W.heap.size (W.heap.size + 1 + 1 + 1)) (fun (pre : List α) X => ((∃ v, Boxed X (W.heap.size + 1 + 1) 73 v ∧ X.ownsRow W.heap.size 5 1 v pre.length (nums .u8 (pre.map fun x => bt x.1.2 (k : Int))) ∧ True) ∧ Boxed X W.heap.size 3 (.int .i64 (k : Int)) ∧ Boxed X (W.heap.size + 1 + 1 + 1) 22 (.slice (some ⟨b, off, none⟩) l.length c0)) ∧ Below W.heap.size W X) (fun _ _ _ => False) (pre ++ [⟨(xi, s), hxs⟩]) X .normal { tmps := #[], defers := [] } (w1.setCell ⟨W.heap.size + 1 + 1, 0, none⟩ (.slice (some ⟨g', 0, none⟩) (pre.length + 1) cap')) := by
          refine ⟨((KeepsOthers.drew X).trans hk2).from _, ⟨((Below.refl _ X).drew).trans hb2, fun u hu => ?_⟩, ⟨⟨_, hv2, ?_, trivial⟩, hbX, hbS⟩, hBX.trans (((Below.refl _ X).drew).trans hb2)⟩
          · rw [hS.cell] at hu
            rw [← hu]
            exact hbS.cell
          · rw [List.map_append, List.length_append, nums_append]
            have e : nums .u8 (([⟨(xi, s), hxs⟩] : List α).map fun x => bt x.1.2 (k : Int)) = [(.int .u8 (bt s (k : Int)))] := rfl
            rw [e]
            exact hr2
        have FIN := Lib.hid fin
        clear fin hv1 hv2 hr2 hk2 hb2 hbX hbS hown' hgrow rowX hc hcells hg1 hg2 hrow hB hM hBW bX bL bS rL hrow2 hX hS hBX hv
        gi_wp2
        gi_region
        all_goals exact FIN.out
      case done =>
        rintro D ys Y hD rfl ⟨⟨⟨v, hv, hrow2, _⟩, hX, hS⟩, hBX⟩ hK
        have hrowY : Y.ownsRow w.heap.size 9 1 ov k (((turnB l wd).take k).map Value.string) := own_belowW hrow hBX
        have hBY : Below w.heap.size w Y := below_step hB hBX
        obtain ⟨S, hS2⟩ : ∃ S, S = strOfNums ((back g l.length l.length).map fun x => bt x.1.2 (k : Int)) := ⟨_, rfl⟩
        have hcv : (convert 73 9 v).run Tryd.prog Y = .ok (.string S) Y := by rw [hS2]; exact own_string Tryd.underlying73 Tryd.underlying5 Tryd.underlying9 hrow2
        have hS3 := Aside0.mk hS2
        clear hS2
        have hcl := hv.cell
        obtain ⟨i0, hi, hz0, hz1, hz2⟩ := info_parts info9
        have hHK := Aside0.mk hK
        have hHR := Aside0.mk hrowY
        have hHB := Aside0.mk hBY
        have hHX := Aside0.mk hBX
        have hHM := Aside0.mk hM
        have hHD := Aside0.mk hD
        have hHB0 := Aside0.mk hB.size
        have hHZ := Aside0.mk hsz0
        have hG := Aside0.mk hg2
        clear hK hrowY hBY hBX hM hD hrow hrow2 hX hS hv hB hc hcells hg1 hg2 hBW bX bL bS rL hsz0 hW0
        gi_wp2_with (gi_at_builtin; refine wpListIn_append_own _ rfl _ _ 22 rfl w.heap.size 9 i0 (.string ⟨#[]⟩) 1 16 Tryd.underlying22 hi hz0 hz1 hz2 rfl (by decide) ov k _ rfl (hHR.out.alloc _) ⟨Y.heap.size, 0, none⟩ 1 1 [.string S] rfl rfl (cell_one_new _ _ _) (by simp [Value.oneCell']) (by simp only [maxLen]; omega) (by omega) (by have := hHB.out.size; simp; omega) ?_; intro v' w2 hown' hgrow _; obtain ⟨g', cap', rfl⟩ := ownsRow_succ hown'; have hHO := Aside0.mk hown'; have hHG := Aside0.mk (show (Y.alloc (.cells #[.string S] 9)).grownBy w2 ov.ownBlock from hgrow); clear hown' hgrow)
        have rowEq : ((turnB l wd).take (k + 1)).map Value.string = ((turnB l wd).take k).map Value.string ++ [.string S] := by
          have hkl : k < (turnB l wd).length := by simpa [turnB] using hlt
          rw [List.take_succ_eq_append_getElem hkl, List.map_append]
          congr 1
          have e1 : (turnB l wd)[k] = strOfNums (colB l k) := by simp [turnB]
          have e2 : ((back g l.length l.length).map fun x => bt x.1.2 (k : Int)) = colB l k := by
            apply List.ext_getElem
            · simp [back, colB]
            · intro i h1 h2
              have hi : i < l.length := by simpa [back] using h1
              simp only [back, colB, List.map_map, List.getElem_map, List.getElem_range, Function.comp, List.getElem_reverse]
              rw [hG.out (l.length - 1 - i) (by omega), getElem!_pos l (l.length - 1 - i) (by omega)]
          rw [List.map_cons, List.map_nil, e1, hS3.out, e2]
        have KO : KeepsOthers Y w2 := (KeepsOthers.alloc Y _).trans (KeepsOthers.of_grownBy hHG.out fun j o ej hj => by
          rcases (hHR.out.alloc (.cells #[.string S] 9)).2 with ⟨rfl, _⟩ | ⟨g2, cap2, cur2, rfl, _, hgb, _⟩
          · simp [Value.ownBlock] at ej
          · obtain rfl : g2 = j := by simpa [Value.ownBlock] using ej
            rw [hgb] at hj; cases hj; rfl)
        have BW2 : Below w.heap.size w w2 := by
          refine hHB.out.trans (((Below.refl w.heap.size Y).alloc hHB.out.size (.cells #[.string S] 9)).grown hHG.out (by have := hHB.out.size; simp; omega) fun j ej => ?_)
          rcases hHR.out.2 with ⟨rfl, _⟩ | ⟨g2, cap2, cur2, rfl, hb2, _, _⟩
          · simp [Value.ownBlock] at ej
          · obtain rfl : g2 = j := by simpa [Value.ownBlock] using ej
            exact hb2
        have MK2 : Marks w.heap.size w2 (D :: Ds) := by
          have lt : ∀ D' ∈ Ds, D' < W.heap.size := fun D' h => (Array.getElem?_eq_some_iff.1 (hHM.out.2 D' h).2).1
          have hDW : W.heap.size ≤ D := by have := hHD.out; have := hHZ.out; omega
          refine ⟨List.nodup_cons.2 ⟨fun h => by have := lt D h; omega, hHM.out.1⟩, fun D' h => ?_⟩
          rcases List.mem_cons.1 h with rfl | h
          · exact ⟨by have := hHB0.out; omega, KO.same _ _ hHK.out rfl⟩
          · have h2 := hHM.out.2 D' h
            exact ⟨h2.1, KO.same _ _ ((hHX.out.block D' (lt D' h)).trans h2.2) rfl⟩
        refine ⟨⟨k + 1, .slice (some ⟨g', 0, none⟩) (k + 1) cap', D :: Ds, _, _, _, _, _, _, _, _, _, _, _, _, _, _, _, _, _, _, _, _, _, _, _, rfl, by omega, by rw [rowEq]; exact hHO.out, BW2, MK2⟩, ?_⟩
        show wd - ((k : Int) + 1).toNat < wd - ((k : Int)).toNat
        omega
      case stop =>
        rintro D c pre W _ _ h _
        exact h.elim
    · have c1 : ¬ (k : Int) < (wd : Int) := by omega
      gi_wp2
      have hkw : k = wd := by omega
      subst hkw
      rw [List.take_of_length_le (by simp [turnB])] at hrow
      refine leaves_marks w.heap.size (fun W => W.ownsRow w.heap.size 9 1 ov k ((turnB l k).map Value.string) ∧ Below w.heap.size w W) ?_ ?_ Ds W ⟨hrow, hB⟩ hM.2 hM.1
      · rintro X D ⟨h1, h2⟩ hD hh
        exact ⟨ownsRow_putObj h1 _ hh rfl, h2.trans (belowK_b (w := w) (Nat.le_refl _) X D _ _ hD hh rfl rfl)⟩
      · rintro X ⟨h1, h2⟩
        exact ⟨_, results_tmp rfl _ _ _, ov, rfl, h1, h2⟩
end Go.Proofs.YthfmfeghipjpdaaDoor.P
