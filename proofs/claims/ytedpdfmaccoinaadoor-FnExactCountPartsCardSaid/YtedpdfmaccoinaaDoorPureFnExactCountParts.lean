/- How many parts hold so many nuts: the program's count and the reference's are one, for all lists of texts and numbers. -/
import Derived.Test.YtedpdfmaccoinaaDoorESum
import Derived.Test.YtedpdfmaccoinaaDoorPx18
namespace Go.Proofs.YtedpdfmaccoinaaDoor.Pure
open Go.RowKit Go.Proofs.YtedpdfmaccoinaaDoor.P Go.Proofs.YtedpdfmaccoinaaDoorW.PrintWords Go.Proofs.YtedpdfmaccoinaaDoorW.PrintLast
def cntP (l : List ByteArray) (W H : Nat) (a : Int) : List (Nat × Nat) → Nat
  | [] => 0
  | p :: ps => (if partSum l p.1 W p.2 H = a then 1 else 0) + cntP l W H a ps
theorem cntP_le (l : List ByteArray) (W H : Nat) (a : Int) : ∀ ps, cntP l W H a ps ≤ ps.length
  | [] => Nat.le_refl _
  | p :: ps => by
    have := cntP_le l W H a ps
    show (if partSum l p.1 W p.2 H = a then 1 else 0) + cntP l W H a ps ≤ ps.length + 1
    by_cases c : partSum l p.1 W p.2 H = a
    · rw [if_pos c]; omega
    · rw [if_neg c]; omega
theorem cntP_append (l : List ByteArray) (W H : Nat) (a : Int) (qs : List (Nat × Nat)) : ∀ ps, cntP l W H a (ps ++ qs) = cntP l W H a ps + cntP l W H a qs
  | [] => by simp [cntP]
  | p :: ps => by
    show _ + cntP l W H a (ps ++ qs) = (_ + cntP l W H a ps) + _
    rw [cntP_append l W H a qs ps, Nat.add_assoc]
def pcnt (l : List ByteArray) (w : Nat) (a : Int) (s : Nat × Nat) : Nat := cntP l s.1 s.2 a (allFrom (w + 1 - s.1) 0 (l.length + 1 - s.2))
def tsum (l : List ByteArray) (w : Nat) (a : Int) : List (Nat × Nat) → Nat
  | [] => 0
  | s :: ss => pcnt l w a s + tsum l w a ss
theorem tsum_append (l : List ByteArray) (w : Nat) (a : Int) (qs : List (Nat × Nat)) : ∀ ps, tsum l w a (ps ++ qs) = tsum l w a ps + tsum l w a qs
  | [] => by simp [tsum]
  | p :: ps => by
    show _ + tsum l w a (ps ++ qs) = (_ + tsum l w a ps) + _
    rw [tsum_append l w a qs ps, Nat.add_assoc]
def szRow (W : Nat) : Nat → Nat → List (Nat × Nat)
  | _, 0 => []
  | H, d + 1 => (W, H) :: szRow W (H + 1) d
def szAll (h : Nat) : Nat → Nat → List (Nat × Nat)
  | _, 0 => []
  | W, d + 1 => szRow W 1 h ++ szAll h (W + 1) d
def mkS (s : Nat × Nat) : S30 := ⟨(s.1 : Int), (s.2 : Int)⟩
theorem szRow_len (W : Nat) : ∀ d H, (szRow W H d).length = d
  | 0, _ => rfl
  | d + 1, H => by rw [show szRow W H (d + 1) = (W, H) :: szRow W (H + 1) d from rfl, List.length_cons, szRow_len W d]
theorem szAll_len (h : Nat) : ∀ d W, (szAll h W d).length = d * h
  | 0, _ => by simp [szAll]
  | d + 1, W => by rw [show szAll h W (d + 1) = szRow W 1 h ++ szAll h (W + 1) d from rfl, List.length_append, szRow_len, szAll_len h d, Nat.succ_mul, Nat.add_comm]
theorem szRow_mem (W : Nat) : ∀ (d H : Nat) (s : Nat × Nat), s ∈ szRow W H d → s.1 = W ∧ H ≤ s.2 ∧ s.2 < H + d := by
  intro d
  induction d with
  | zero => intro H s hs; exact absurd hs (List.not_mem_nil)
  | succ d ih =>
    intro H s hs
    rcases List.mem_cons.1 hs with rfl | hs
    · exact ⟨rfl, Nat.le_refl _, by show H < H + (d + 1); omega⟩
    · have := ih (H + 1) s hs
      exact ⟨this.1, by omega, by omega⟩
theorem szAll_mem (h : Nat) : ∀ (d W : Nat) (s : Nat × Nat), s ∈ szAll h W d → W ≤ s.1 ∧ s.1 < W + d ∧ 1 ≤ s.2 ∧ s.2 ≤ h := by
  intro d
  induction d with
  | zero => intro W s hs; exact absurd hs (List.not_mem_nil)
  | succ d ih =>
    intro W s hs
    rcases List.mem_append.1 hs with hs | hs
    · have := szRow_mem W h 1 s hs
      exact ⟨by omega, by omega, by omega, by omega⟩
    · have := ih (W + 1) s hs
      exact ⟨by omega, by omega, this.2.2.1, this.2.2.2⟩
section
variable {l : List ByteArray} {w : Nat}
theorem pcnt_le (h : Nuts l w) (a : Int) (s : Nat × Nat) : pcnt l w a s ≤ 81 := by
  have := cntP_le l s.1 s.2 a (allFrom (w + 1 - s.1) 0 (l.length + 1 - s.2))
  rw [allFrom_len] at this
  have h8 := h.rows8
  have w8 := h.wide8
  have : (l.length + 1 - s.2) * (w + 1 - s.1) ≤ 9 * 9 := Nat.mul_le_mul (by omega) (by omega)
  unfold pcnt
  omega
theorem nparts_l1 (h : Nuts l w) (W H y : Nat) (hy : y + H ≤ l.length) (hW : W ≤ w) (a : Int) (r : Int) : ∀ (d x c : Nat), x + d = w + 1 - W → c + d ≤ 1000 →
    Ev (fun k => spec_ntParts.l0 k l (W : Int) (H : Int) a ((c + cntP l W H a (rowFrom y x d) : Nat) : Int) ((y + 1 : Nat) : Int)) r →
    Ev (fun k => spec_ntParts.l1 k l (W : Int) (H : Int) a (c : Int) (y : Int) (x : Int)) r := by
  have h8 := h.rows8
  have h1 := h.rows1
  have w8 := h.wide8
  have h0 : ((rdOf ByteArray.empty l 0).size : Int) = (w : Int) := by
    have := (h.row 0 (by omega)).1
    simp only [Int.natCast_zero] at this
    omega
  intro d
  induction d with
  | zero =>
    intro x c hx hc next
    refine Ev.step (fun k => ?_) next
    simp only [spec_ntParts.l1, h0]
    rw [if_pos (by omega), w64 (x := (x : Int) + W) (by omega) (by omega), if_neg (by omega), w64 (by omega) (by omega)]
    rfl
  | succ d ih =>
    intro x c hx hc next
    have s := nsum_at h x y W H (by omega) hy
    have hxw : ((x + W : Nat) : Int) ≤ (w : Int) := by omega
    have hp : 0 < (l.length : Int) := by omega
    have q1 : x + 1 + d = w + 1 - W := by omega
    have q2 : c + 1 + d ≤ 1000 := by omega
    have q3 : c + d ≤ 1000 := by omega
    have q4 : x + W ≤ 1000000000 := by omega
    have q5 : y + H ≤ 1000000000 := by omega
    have q6 : x ≤ 100000000 := by omega
    have q7 : c ≤ 100000000 := by omega
    have e1 := w64n x W q4
    have e2 := w64n y H q5
    have e3 := w64s x q6
    have e4 := w64s c q7
    have hq : cntP l W H a (rowFrom y x (d + 1)) = (if partSum l x W y H = a then 1 else 0) + cntP l W H a (rowFrom y (x + 1) d) := rfl
    rw [hq] at next
    refine Ev.step (fun k => by simp only [spec_ntParts.l1, h0, e1, e2, e3, e4]; rw [if_pos hp, if_pos hxw]) (Ev.bind s ?_)
    by_cases z : partSum l x W y H = a
    · rw [if_pos z, ← Nat.add_assoc] at next
      exact ev_if_pos z (ih (x + 1) (c + 1) q1 q2 next)
    · rw [if_neg z, Nat.zero_add] at next
      exact ev_if_neg z (ih (x + 1) c q1 q3 next)
theorem nparts_l0 (h : Nuts l w) (W H : Nat) (hH : H ≤ l.length) (hW : W ≤ w) (a : Int) : ∀ (d y c : Nat), y + d = l.length + 1 - H → c + 9 * d ≤ 900 →
    Ev (fun k => spec_ntParts.l0 k l (W : Int) (H : Int) a (c : Int) (y : Int)) ((c + cntP l W H a (allFrom (w + 1 - W) y d) : Nat) : Int) := by
  have h8 := h.rows8
  have w8 := h.wide8
  intro d
  induction d with
  | zero =>
    intro y c hy hc
    refine Ev.step (f := fun _ => some (c : Int)) (fun k => ?_) (Ev.now _)
    simp only [spec_ntParts.l0]
    rw [w64 (by omega) (by omega), if_neg (by omega)]
  | succ d ih =>
    intro y c hy hc
    have le := cntP_le l W H a (rowFrom y 0 (w + 1 - W))
    rw [rowFrom_len] at le
    have n := ih (y + 1) (c + cntP l W H a (rowFrom y 0 (w + 1 - W))) (by omega) (by omega)
    rw [show allFrom (w + 1 - W) y (d + 1) = rowFrom y 0 (w + 1 - W) ++ allFrom (w + 1 - W) (y + 1) d from rfl, cntP_append, ← Nat.add_assoc]
    refine Ev.step (fun k => ?_) (nparts_l1 h W H y (by omega) hW a _ (w + 1 - W) 0 c (by omega) (by omega) n)
    simp only [spec_ntParts.l0]
    rw [w64 (by omega) (by omega), if_pos (by omega)]
    rfl
theorem nparts_ev (h : Nuts l w) (W H : Nat) (hH : H ≤ l.length) (hW : W ≤ w) (a : Int) : Ev (fun k => spec_ntParts.f k l (W : Int) (H : Int) a) ((pcnt l w a (W, H) : Nat) : Int) := by
  have h8 := h.rows8
  have := nparts_l0 h W H hH hW a (l.length + 1 - H) 0 0 (by omega) (by omega)
  rw [Nat.zero_add] at this
  exact this
theorem scount_l1 (h : Nuts l w) (a : Int) (W : Nat) (hW : W ≤ w) (r : Int × Bool) : ∀ (d H c : Nat), H + d = l.length + 1 → c + 81 * d ≤ 100000 →
    Ev (fun k => spec_CountParts.l0 k l a ((c + tsum l w a (szRow W H d) : Nat) : Int) ((W + 1 : Nat) : Int)) r →
    Ev (fun k => spec_CountParts.l1 k l a (c : Int) (W : Int) (H : Int)) r := by
  have h8 := h.rows8
  have w8 := h.wide8
  intro d
  induction d with
  | zero =>
    intro H c hH hc next
    refine Ev.step (fun k => ?_) next
    simp only [spec_CountParts.l1]
    rw [if_neg (by omega), w64 (by omega) (by omega)]
    rfl
  | succ d ih =>
    intro H c hH hc next
    have s := nparts_ev h W H (by omega) hW a
    have le := pcnt_le h a (W, H)
    have e1 : wrap64 ((H : Int) + 1) = ((H + 1 : Nat) : Int) := by rw [w64 (by omega) (by omega)]; omega
    have e2 : wrap64 ((c : Int) + ((pcnt l w a (W, H) : Nat) : Int)) = ((c + pcnt l w a (W, H) : Nat) : Int) := by rw [w64 (by omega) (by omega)]; omega
    have hl : (H : Int) ≤ (l.length : Int) := by clear e1 e2; omega
    rw [show szRow W H (d + 1) = (W, H) :: szRow W (H + 1) d from rfl, show tsum l w a ((W, H) :: szRow W (H + 1) d) = pcnt l w a (W, H) + tsum l w a (szRow W (H + 1) d) from rfl, ← Nat.add_assoc] at next
    have n := ih (H + 1) (c + pcnt l w a (W, H)) (by clear e1 e2; omega) (by clear e1 e2; omega) next
    rw [← e2] at n
    refine Ev.step (fun k => by simp only [spec_CountParts.l1, e1]; rw [if_pos hl]) (Ev.bind s n)
theorem scount_l0 (h : Nuts l w) (a : Int) : ∀ (d W c : Nat), W + d = w + 1 → c + 648 * d ≤ 90000 →
    Ev (fun k => spec_CountParts.l0 k l a (c : Int) (W : Int)) (((c + tsum l w a (szAll l.length W d) : Nat) : Int), true) := by
  have h8 := h.rows8
  have h1 := h.rows1
  have w8 := h.wide8
  have h0 : ((rdOf ByteArray.empty l 0).size : Int) = (w : Int) := by
    have := (h.row 0 (by omega)).1
    simp only [Int.natCast_zero] at this
    omega
  have tle : ∀ (ss : List (Nat × Nat)), tsum l w a ss ≤ 81 * ss.length := by
    intro ss
    induction ss with
    | nil => exact Nat.le_refl _
    | cons s ss ih =>
      have := pcnt_le h a s
      show pcnt l w a s + tsum l w a ss ≤ 81 * (ss.length + 1)
      omega
  intro d
  induction d with
  | zero =>
    intro W c hW hc
    refine Ev.step (f := fun _ => some ((c : Int), true)) (fun k => ?_) (Ev.now _)
    simp only [spec_CountParts.l0, h0]
    rw [if_pos (by omega), if_neg (by omega)]
  | succ d ih =>
    intro W c hW hc
    have le := tle (szRow W 1 l.length)
    rw [szRow_len] at le
    have n := ih (W + 1) (c + tsum l w a (szRow W 1 l.length)) (by omega) (by omega)
    rw [show szAll l.length W (d + 1) = szRow W 1 l.length ++ szAll l.length (W + 1) d from rfl, tsum_append, ← Nat.add_assoc]
    refine Ev.step (fun k => ?_) (scount_l1 h a W (by omega) _ l.length 1 c (by omega) (by omega) n)
    simp only [spec_CountParts.l0, h0]
    rw [if_pos (by omega), if_pos (by omega)]
    rfl

theorem sizes_l1 (W : Nat) (hl : l.length ≤ 8) (hW8 : W ≤ 8) (r : List S30) : ∀ (d H : Nat) (acc : List S30), H + d = l.length + 1 → acc.length + d ≤ 1000 →
    Ev (fun k => impl_sizes.l0 k l (acc ++ (szRow W H d).map mkS) ((W + 1 : Nat) : Int)) r → Ev (fun k => impl_sizes.l1 k l acc (W : Int) (H : Int)) r := by
  intro d
  induction d with
  | zero =>
    intro H acc hH ha next
    rw [show acc ++ (szRow W H 0).map mkS = acc from List.append_nil _] at next
    refine Ev.step (fun k => ?_) next
    simp only [impl_sizes.l1]
    rw [if_neg (by omega), w64 (by omega) (by omega)]
    rfl
  | succ d ih =>
    intro H acc hH ha next
    rw [show acc ++ (szRow W H (d + 1)).map mkS = (acc ++ [mkS (W, H)]) ++ (szRow W (H + 1) d).map mkS by simp [szRow]] at next
    refine Ev.step (fun k => ?_) (ih (H + 1) (acc ++ [mkS (W, H)]) (by omega) (by rw [List.length_append, List.length_singleton]; omega) next)
    simp only [impl_sizes.l1]
    rw [if_pos (by omega), if_pos (by omega), w64 (by omega) (by omega)]
    rfl
theorem sizes_l0 (h : Nuts l w) : ∀ (d W : Nat) (acc : List S30), W + d = w + 1 → acc.length + 8 * d ≤ 500 →
    Ev (fun k => impl_sizes.l0 k l acc (W : Int)) (acc ++ (szAll l.length W d).map mkS) := by
  have h8 := h.rows8
  have h1 := h.rows1
  have w8 := h.wide8
  have h0 : ((rdOf ByteArray.empty l 0).size : Int) = (w : Int) := by
    have := (h.row 0 (by omega)).1
    simp only [Int.natCast_zero] at this
    omega
  intro d
  induction d with
  | zero =>
    intro W acc hW ha
    rw [show acc ++ (szAll l.length W 0).map mkS = acc from List.append_nil _]
    refine Ev.step (f := fun _ => some acc) (fun k => ?_) (Ev.now _)
    simp only [impl_sizes.l0, h0]
    rw [if_pos (by omega), if_neg (by omega)]
  | succ d ih =>
    intro W acc hW ha
    have n := ih (W + 1) (acc ++ (szRow W 1 l.length).map mkS) (by omega) (by rw [List.length_append, List.length_map, szRow_len]; omega)
    rw [show acc ++ (szAll l.length W (d + 1)).map mkS = (acc ++ (szRow W 1 l.length).map mkS) ++ (szAll l.length (W + 1) d).map mkS by simp [szAll]]
    refine Ev.step (fun k => ?_) (sizes_l1 W h8 (by omega) _ l.length 1 acc (by omega) (by omega) n)
    simp only [impl_sizes.l0, h0]
    rw [if_pos (by omega), if_pos (by omega)]
    rfl
theorem bit_some (b : Bool) : impl_bit.f b = some (if b = true then 1 else 0) := by cases b <;> rfl
theorem icount_l1 (h : Nuts l w) (a : Int) (W H : Nat) (ps : List (Nat × Nat)) (hf : Fits l w W H ps) (hlen : ps.length ≤ 1000) (S : List S30) (n : Int) (i : Nat) (hi : i ≤ 1000) (r : Int × Bool) : ∀ (d j c : Nat), j + d = ps.length → c + d ≤ 100000 →
    Ev (fun k => impl_CountParts.l0 k l a ((c + cntP l W H a (ps.drop j) : Nat) : Int) S n ((i + 1 : Nat) : Int)) r →
    Ev (fun k => impl_CountParts.l1 k l a (c : Int) S n (i : Int) (ps.map (mkP W H)) ((ps.map (mkP W H)).length : Int) (j : Int)) r := by
  have hml : (ps.map (mkP W H)).length = ps.length := List.length_map _
  intro d
  induction d with
  | zero =>
    intro j c hj hc next
    rw [List.drop_of_length_le (by omega)] at next
    refine Ev.step (fun k => ?_) next
    simp only [impl_CountParts.l1]
    rw [if_neg (by omega), w64 (by omega) (by omega)]
    rfl
  | succ d ih =>
    intro j c hj hc next
    have hlt : j < ps.length := by omega
    have hr : rd_T50 (ps.map (mkP W H)) (j : Int) = mkP W H ps[j] := by
      unfold rd_T50
      rw [Int.toNat_natCast, List.getD_eq_getElem?_getD, List.getElem?_map, List.getElem?_eq_getElem hlt]
      rfl
    have r0 : (rd_T50 (ps.map (mkP W H)) (j : Int)).f0 = (ps[j].1 : Int) := by rw [hr]; rfl
    have r1 : (rd_T50 (ps.map (mkP W H)) (j : Int)).f1 = (ps[j].2 : Int) := by rw [hr]; rfl
    have r2 : (rd_T50 (ps.map (mkP W H)) (j : Int)).f2.f0 = (W : Int) := by rw [hr]; rfl
    have r3 : (rd_T50 (ps.map (mkP W H)) (j : Int)).f2.f1 = (H : Int) := by rw [hr]; rfl
    obtain ⟨f1, f2⟩ := hf ps[j] (List.getElem_mem hlt)
    have s := nutsIn_ev h ps[j].1 ps[j].2 W H f1 f2
    have e3 : wrap64 ((j : Int) + 1) = ((j + 1 : Nat) : Int) := by rw [w64 (by omega) (by omega)]; omega
    have c1 : (j : Int) < ((ps.map (mkP W H)).length : Int) := by rw [hml]; clear e3; omega
    have c0 : 0 ≤ (j : Int) := by clear e3; omega
    rw [List.drop_eq_getElem_cons hlt, show cntP l W H a (ps[j] :: ps.drop (j + 1)) = (if partSum l ps[j].1 W ps[j].2 H = a then 1 else 0) + cntP l W H a (ps.drop (j + 1)) from rfl, ← Nat.add_assoc] at next
    refine Ev.step (fun k => by simp only [impl_CountParts.l1, r0, r1, r2, r3, e3]; rw [if_pos c1, if_pos c0, if_pos c1]) (Ev.bind s (ev_val (bit_some _) ?_))
    by_cases z : partSum l ps[j].1 W ps[j].2 H = a
    · rw [if_pos z] at next
      rw [if_pos (beq_iff_eq.2 z), show wrap64 ((c : Int) + 1) = ((c + 1 : Nat) : Int) by clear e3; rw [w64 (by omega) (by omega)]; omega]
      exact ih (j + 1) (c + 1) (by clear e3; omega) (by clear e3; omega) next
    · rw [if_neg z] at next
      rw [if_neg (by rw [beq_iff_eq]; exact z), show wrap64 ((c : Int) + 0) = ((c + 0 : Nat) : Int) by clear e3; rw [w64 (by omega) (by omega)]; omega]
      exact ih (j + 1) (c + 0) (by clear e3; omega) (by clear e3; omega) next
theorem icount_l0 (h : Nuts l w) (a : Int) (ss : List (Nat × Nat)) (hs : ∀ s ∈ ss, 1 ≤ s.1 ∧ s.1 ≤ w ∧ 1 ≤ s.2 ∧ s.2 ≤ l.length) (hlen : ss.length ≤ 500) : ∀ (d i c : Nat), i + d = ss.length → c + 81 * d ≤ 90000 →
    Ev (fun k => impl_CountParts.l0 k l a (c : Int) (ss.map mkS) ((ss.map mkS).length : Int) (i : Int)) (((c + tsum l w a (ss.drop i) : Nat) : Int), true) := by
  have h8 := h.rows8
  have w8 := h.wide8
  have hml : (ss.map mkS).length = ss.length := List.length_map _
  intro d
  induction d with
  | zero =>
    intro i c hi hc
    rw [List.drop_of_length_le (by omega)]
    refine Ev.step (f := fun _ => some ((c : Int), true)) (fun k => ?_) (Ev.now _)
    simp only [impl_CountParts.l0]
    rw [if_neg (by omega)]
  | succ d ih =>
    intro i c hi hc
    have hlt : i < ss.length := by omega
    have hr : rd_T30 (ss.map mkS) (i : Int) = mkS ss[i] := by
      unfold rd_T30
      rw [Int.toNat_natCast, List.getD_eq_getElem?_getD, List.getElem?_map, List.getElem?_eq_getElem hlt]
      rfl
    have r0 : (rd_T30 (ss.map mkS) (i : Int)).f0 = (ss[i].1 : Int) := by rw [hr]; rfl
    have r1 : (rd_T30 (ss.map mkS) (i : Int)).f1 = (ss[i].2 : Int) := by rw [hr]; rfl
    obtain ⟨f1, f2, f3, f4⟩ := hs ss[i] (List.getElem_mem hlt)
    generalize hW : ss[i].1 = W at r0 f1 f2
    generalize hH : ss[i].2 = H at r1 f3 f4
    have hp := parts_l0 h W H (by omega) (by omega) (l.length + 1 - H) 0 [] (by omega) (by rw [List.length_nil]; omega)
    rw [List.nil_append] at hp
    have hp' : Ev (fun k => impl_parts.f k l (W : Int) (H : Int)) ((allFrom (w + 1 - W) 0 (l.length + 1 - H)).map (mkP W H)) := hp
    have fit : Fits l w W H (allFrom (w + 1 - W) 0 (l.length + 1 - H)) := allFrom_fits W H _ 0 (by omega)
    have len := allFrom_len (w + 1 - W) (l.length + 1 - H) 0
    have le : (l.length + 1 - H) * (w + 1 - W) ≤ 9 * 9 := Nat.mul_le_mul (by omega) (by omega)
    have pc := pcnt_le h a (W, H)
    have hq : pcnt l w a ss[i] = pcnt l w a (W, H) := by rw [← hW, ← hH]
    have n := ih (i + 1) (c + pcnt l w a (W, H)) (by omega) (by omega)
    rw [List.drop_eq_getElem_cons hlt, show tsum l w a (ss[i] :: ss.drop (i + 1)) = pcnt l w a ss[i] + tsum l w a (ss.drop (i + 1)) from rfl, hq, ← Nat.add_assoc]
    have run := icount_l1 h a W H (allFrom (w + 1 - W) 0 (l.length + 1 - H)) fit (by omega) (ss.map mkS) ((ss.map mkS).length : Int) i (by omega) _ (allFrom (w + 1 - W) 0 (l.length + 1 - H)).length 0 c (by omega) (by omega) n
    have c1 : (i : Int) < ((ss.map mkS).length : Int) := by rw [hml]; omega
    have c0 : 0 ≤ (i : Int) := by omega
    refine Ev.step (fun k => by simp only [impl_CountParts.l0, r0, r1]; rw [if_pos c1, if_pos c0, if_pos c1]) (Ev.bind hp' ?_)
    exact run
end
theorem countParts_both (l : List ByteArray) (hl : l.length ≤ 1048576) (hz : sizes l ≤ 1048576) (a : Int) : ∃ r, Ev (fun k => spec_CountParts.f k l a) r ∧ Ev (fun k => impl_CountParts.f k l a) r := by
  obtain ⟨b, hg, hi, hb⟩ := good_both l hl hz
  have jS : Ev (fun k => spec_CountParts.j0 k l a true) (0, false) := Ev.step (fun k => by simp only [spec_CountParts.j0, if_true]) (Ev.now _)
  have jI : Ev (fun k => impl_CountParts.j0 k l a true) (0, false) := Ev.step (fun k => by simp only [impl_CountParts.j0, if_true]) (Ev.now _)
  cases b with
  | false =>
    refine ⟨(0, false), ?_, ?_⟩
    · unfold spec_CountParts.f
      exact Ev.bind hg (ev_if_neg (by decide) jS)
    · unfold impl_CountParts.f
      exact ev_val hi (ev_if_neg (by decide) jI)
  | true =>
    obtain ⟨w, h⟩ := hb rfl
    have h1 := h.rows1
    have h8 := h.rows8
    have w1 := h.wide1
    have w8 := h.wide8
    by_cases ca : a < 0
    · refine ⟨(0, false), ?_, ?_⟩
      · unfold spec_CountParts.f
        refine Ev.bind hg (ev_if_pos rfl ?_)
        rw [decide_eq_true ca]
        exact jS
      · unfold impl_CountParts.f
        refine ev_val hi (ev_if_pos rfl ?_)
        rw [decide_eq_true ca]
        exact jI
    · have s := scount_l0 h a w 1 0 (by omega) (by omega)
      have z := sizes_l0 h w 1 [] (by omega) (by rw [List.length_nil]; omega)
      rw [List.nil_append] at z
      have len := szAll_len l.length w 1
      have le : w * l.length ≤ 8 * 8 := Nat.mul_le_mul (by omega) (by omega)
      have run := icount_l0 h a (szAll l.length 1 w) (fun s hs => by have := szAll_mem l.length w 1 s hs; exact ⟨by omega, by omega, by omega, by omega⟩) (by omega) (szAll l.length 1 w).length 0 0 (by omega) (by omega)
      rw [List.drop_zero] at run
      refine ⟨(((0 + tsum l w a (szAll l.length 1 w) : Nat) : Int), true), ?_, ?_⟩
      · unfold spec_CountParts.f
        refine Ev.bind hg (ev_if_pos rfl ?_)
        rw [decide_eq_false ca]
        exact Ev.step (fun k => by simp only [spec_CountParts.j0, Bool.false_eq_true, if_false]; rfl) s
      · unfold impl_CountParts.f
        refine ev_val hi (ev_if_pos rfl ?_)
        rw [decide_eq_false ca]
        refine Ev.step (fun k => by simp only [impl_CountParts.j0, Bool.false_eq_true, if_false]; rfl) (Ev.bind z ?_)
        exact run
theorem FnExactCountParts (l0 : List ByteArray) (hm : l0.length ≤ maxLen) (_ : l0.length * 16 ≤ 140737488351232) (hs : (∀ s ∈ l0, s.size ≤ 140737488351232)) (a1 : Int) (_ : (Lit.int .i64 a1).wf = true) : ∃ k, laws_FnExactCountParts.f k l0 a1 = some true := by
  refine Ev.rounds (r := true) ?_
  unfold laws_FnExactCountParts.f
  obtain ⟨t, ht, hz⟩ := sz_ev l0 hm hs
  refine Ev.bind ht ?_
  by_cases h0 : t < 0
  · simp only [if_pos h0]
    exact Ev.now _
  · simp only [if_neg h0]
    obtain ⟨hl, hz⟩ := hz (by omega)
    have hc := toStringS_ev l0 hl
    obtain ⟨r, hS, hI⟩ := countParts_both l0 hl hz a1
    refine Ev.bind hc (Ev.bind hS (Ev.bind hc (Ev.bind hI ?_)))
    simp only [if_true, bne_self_eq_false]
    refine Ev.step (fun k => by simp only [laws_FnExactCountParts.j0, Bool.false_eq_true, if_false]; rfl) ?_
    refine Ev.bind hc (Ev.bind (eqStringS_refl l0 (by omega)) ?_)
    simp only [if_true]
    exact Ev.now _
end Go.Proofs.YtedpdfmaccoinaaDoor.Pure
