/- The least costs of eating are least: each entry as the least of what the breaks give. Conditions: a bar of sides 1 to 12. -/
import Derived.Test.YthlnpbdjblocfaaUEat
namespace Go.Proofs.Ythlnpbdjblocfaa.Pure
open Go Go.RowKit Go.Proofs.Ythlnpbdjblocfaa.P Go.Proofs.YthlnpbdjblocfaaW.PrintWords Go.Proofs.YthlnpbdjblocfaaW.PrintLast Go.Proofs.YthlnpbdjblocfaaW.PrintMore
set_option linter.unusedVariables false
set_option linter.unusedSimpArgs false
/-- The lesser of two costs, below nought being none. -/
def lessI (a b : Int) : Int := if a < 0 then b else if b < a then b else a
theorem lessI_cases (a b : Int) : (a < 0 ∧ lessI a b = b) ∨ (0 ≤ a ∧ b < a ∧ lessI a b = b) ∨ (0 ≤ a ∧ a ≤ b ∧ lessI a b = a) := by
  unfold lessI
  by_cases h : a < 0
  · rw [if_pos h]; exact .inl ⟨h, rfl⟩
  · rw [if_neg h]
    by_cases h2 : b < a
    · rw [if_pos h2]; exact .inr (.inl ⟨by omega, h2, rfl⟩)
    · rw [if_neg h2]; exact .inr (.inr ⟨by omega, by omega, rfl⟩)
/-- The least sum of two entries whose places make t, among the first n of one list. -/
def mnS (f g : List Int) (t : Nat) : Nat → Int
  | 0 => -1
  | n + 1 => if n ≤ t ∧ t - n < g.length then lessI (mnS f g t n) (rd f (n : Int) + rd g ((t - n : Nat) : Int)) else mnS f g t n
def accI (c : Int) (f g : List Int) (v0 : Int) (t : Nat) : Nat → Int
  | 0 => v0
  | n + 1 => if n ≤ t ∧ t - n < g.length then lessI (accI c f g v0 t n) (c + rd f (n : Int) + rd g ((t - n : Nat) : Int)) else accI c f g v0 t n
theorem rd_set (o : List Int) (j t : Nat) (x : Int) (hj : j < o.length) : rd (o.set j x) (t : Int) = if t = j then x else rd o (t : Int) := by
  unfold Go.Proofs.YthlnpbdjblocfaaW.PrintWords.rd
  rw [Int.toNat_natCast, List.getD_eq_getElem?_getD, List.getD_eq_getElem?_getD, List.getElem?_set]
  by_cases h : j = t
  · subst h
    rw [if_pos rfl, if_pos rfl, if_pos hj]
    rfl
  · rw [if_neg h, if_neg (Ne.symm h)]
theorem rd_upd (o : List Int) (j t : Nat) (x : Int) (hj : j < o.length) : rd (upd o j x) (t : Int) = if t = j then lessI (rd o (t : Int)) x else rd o (t : Int) := by
  unfold upd
  by_cases h : rd o (j : Int) < 0 ∨ x < rd o (j : Int)
  · rw [if_pos h, rd_set o j t x hj]
    by_cases e : t = j
    · subst e
      rw [if_pos rfl, if_pos rfl]
      rcases lessI_cases (rd o (t : Int)) x with ⟨_, e⟩ | ⟨_, _, e⟩ | ⟨h1, h2, e⟩
      · rw [e]
      · rw [e]
      · omega
    · rw [if_neg e, if_neg e]
  · rw [if_neg h]
    by_cases e : t = j
    · subst e
      rw [if_pos rfl]
      rcases lessI_cases (rd o (t : Int)) x with ⟨h1, e⟩ | ⟨h1, h2, e⟩ | ⟨_, _, e⟩
      · exact absurd (.inl h1) h
      · exact absurd (.inr h2) h
      · rw [e]
    · rw [if_neg e]
theorem inK_rd (c m : Int) (s : List Int) (i : Nat) (o : List Int) (t : Nat) : ∀ n, i + n ≤ o.length → rd (inK c m s i o n) (t : Int) = if i ≤ t ∧ t - i < n then lessI (rd o (t : Int)) (c + m + rd s ((t - i : Nat) : Int)) else rd o (t : Int)
  | 0, _ => by rw [if_neg (by omega)]; rfl
  | n + 1, h => by
    rw [inK, rd_upd _ _ _ _ (by rw [inK_len]; omega), inK_rd c m s i o t n (by omega)]
    by_cases e : t = i + n
    · rw [if_pos e, if_neg (by omega), if_pos (by omega), show t - i = n by omega]
    · rw [if_neg e]
      by_cases e2 : i ≤ t ∧ t - i < n
      · rw [if_pos e2, if_pos (by omega)]
      · rw [if_neg e2, if_neg (by omega)]
theorem inI_rd (c : Int) (f g o : List Int) (t : Nat) : ∀ n, n + g.length ≤ o.length + 1 → rd (inI c f g o n) (t : Int) = accI c f g (rd o (t : Int)) t n
  | 0, _ => rfl
  | n + 1, h => by
    rw [inI, inK_rd _ _ _ _ _ _ _ (by rw [inI_len]; omega), inI_rd c f g o t n (by omega), accI]
def NN (f : List Int) : Prop := ∀ x ∈ f, 0 ≤ x
theorem NN.rd {f : List Int} (h : NN f) (j : Nat) : 0 ≤ rd f (j : Int) := by
  by_cases hj : j < f.length
  · rw [rd_lt f j hj]
    exact h _ (List.getElem_mem hj)
  · unfold Go.Proofs.YthlnpbdjblocfaaW.PrintWords.rd
    rw [Int.toNat_natCast, List.getD_eq_getElem?_getD, List.getElem?_eq_none (by omega)]
    exact Int.le_refl _
theorem accI_mnS {c : Int} {f g : List Int} (hf : NN f) (hg : NN g) (hc : 0 ≤ c) (v0 : Int) (t : Nat) : ∀ n, (mnS f g t n = -1 ∧ accI c f g v0 t n = v0) ∨ (0 ≤ mnS f g t n ∧ accI c f g v0 t n = lessI v0 (c + mnS f g t n))
  | 0 => .inl ⟨rfl, rfl⟩
  | n + 1 => by
    have h1 := hf.rd n
    have h2 := hg.rd (t - n)
    have ih := accI_mnS hf hg hc v0 t n
    rw [mnS, accI]
    by_cases h : n ≤ t ∧ t - n < g.length
    · rw [if_pos h, if_pos h]
      rcases ih with ⟨e1, e2⟩ | ⟨e1, e2⟩
      · rw [e1, e2, show lessI (-1) (rd f (n : Int) + rd g ((t - n : Nat) : Int)) = rd f (n : Int) + rd g ((t - n : Nat) : Int) from rfl]
        exact .inr ⟨by omega, by rw [Int.add_assoc]⟩
      · rw [e2]
        refine .inr ?_
        generalize mnS f g t n = m at *
        generalize rd f (n : Int) = x at *
        generalize rd g ((t - n : Nat) : Int) = y at *
        rcases lessI_cases m (x + y) with ⟨_, e⟩ | ⟨_, _, e⟩ | ⟨_, _, e⟩ <;> rw [e] <;> refine ⟨by omega, ?_⟩ <;>
          rcases lessI_cases v0 (c + m) with ⟨_, e'⟩ | ⟨_, _, e'⟩ | ⟨_, _, e'⟩ <;> rw [e'] <;>
          rcases lessI_cases v0 (c + (x + y)) with ⟨_, e''⟩ | ⟨_, _, e''⟩ | ⟨_, _, e''⟩ <;>
          first
          | (rcases lessI_cases (c + m) (c + x + y) with ⟨_, q⟩ | ⟨_, _, q⟩ | ⟨_, _, q⟩ <;> rw [q] <;> first | omega | (rw [e'']; omega) | (rw [e']; omega))
          | (rcases lessI_cases v0 (c + x + y) with ⟨_, q⟩ | ⟨_, _, q⟩ | ⟨_, _, q⟩ <;> rw [q] <;> first | omega | (rw [e'']; omega) | (rw [e']; omega))
    · rw [if_neg h, if_neg h]
      exact ih
theorem mnS_pos {f g : List Int} (hf : NN f) (hg : NN g) (t : Nat) : ∀ n i, i < n → i ≤ t ∧ t - i < g.length → 0 ≤ mnS f g t n
  | 0, i, h, _ => absurd h (by omega)
  | n + 1, i, h, hi => by
    have h1 := hf.rd n
    have h2 := hg.rd (t - n)
    have low : ∀ a b : Int, 0 ≤ b → 0 ≤ lessI a b := by
      intro a b hb
      rcases lessI_cases a b with ⟨_, e⟩ | ⟨_, _, e⟩ | ⟨_, _, e⟩ <;> rw [e] <;> omega
    rw [mnS]
    by_cases hn : n ≤ t ∧ t - n < g.length
    · rw [if_pos hn]
      exact low _ _ (by omega)
    · rw [if_neg hn]
      exact mnS_pos hf hg t n i (by
        by_cases e : i = n
        · subst e; exact absurd hi hn
        · omega) hi
theorem mnS_bd {B : Int} {f g : List Int} (hf : Bd B f) (hg : Bd B g) (hB : 0 ≤ B) (t : Nat) : ∀ n, -2 ≤ mnS f g t n ∧ mnS f g t n ≤ 2 * B
  | 0 => ⟨by show (-2 : Int) ≤ -1; decide, by show (-1 : Int) ≤ 2 * B; omega⟩
  | n + 1 => by
    have h1 := hf.rd hB n
    have h2 := hg.rd hB (t - n)
    have ih := mnS_bd hf hg hB t n
    rw [mnS]
    by_cases hn : n ≤ t ∧ t - n < g.length
    · rw [if_pos hn]
      rcases lessI_cases (mnS f g t n) (rd f (n : Int) + rd g ((t - n : Nat) : Int)) with ⟨_, e⟩ | ⟨_, _, e⟩ | ⟨_, _, e⟩ <;> rw [e] <;> omega
    · rw [if_neg hn]
      exact ih
/-- What one break gives. -/
def MV (q : Br) (c : Bool × Nat) (t : Nat) : Int := mnS (eat (oneB q c)) (eat (twoB q c)) t (eat (oneB q c)).length
def stepT (q : Br) (t : Nat) (acc : Int) (c : Bool × Nat) : Int := lessI acc (sqB q c + MV q c t)
theorem rd_rep (n t : Nat) : rd (List.replicate n (0 : Int)) (t : Int) = 0 := by
  unfold Go.Proofs.YthlnpbdjblocfaaW.PrintWords.rd
  rw [Int.toNat_natCast, List.getD_eq_getElem?_getD, List.getElem?_replicate]
  split <;> rfl
theorem iniU_rd (L t : Nat) : ∀ n, n < L → rd (iniU (List.replicate L 0) n) (t : Int) = if 1 ≤ t ∧ t ≤ n then -1 else 0
  | 0, _ => by rw [if_neg (by omega)]; exact rd_rep L t
  | n + 1, h => by
    rw [iniU, rd_set _ _ _ _ (by rw [iniU_len, List.length_replicate]; exact h), iniU_rd L t n (by omega)]
    by_cases e : t = n + 1
    · rw [if_pos e, if_pos (by omega)]
    · rw [if_neg e]
      by_cases e2 : 1 ≤ t ∧ t ≤ n
      · rw [if_pos e2, if_pos (by omega)]
      · rw [if_neg e2, if_neg (by omega)]
theorem iniE_rd {q : Br} (i : OkB q) (t : Nat) : rd (iniE q) (t : Int) = if 1 ≤ t ∧ t < arB q then -1 else 0 := by
  have ha := i.area.1
  unfold iniE
  rw [iniU_rd _ _ _ (by omega)]
  by_cases e : 1 ≤ t ∧ t < arB q
  · rw [if_pos e, if_pos (by omega)]
  · rw [if_neg e, if_neg (by omega)]
theorem cuts_ne {q : Br} (i : OkB q) (h : 2 ≤ arB q) : cuts q.1 q.2 ≠ [] := by
  intro e
  have := congrArg List.length e
  rw [cuts_len, List.length_nil] at this
  simp only [OkB] at i
  have h1 : q.1 = 1 := by omega
  have h2 : q.2 = 1 := by omega
  unfold arB at h
  rw [h1, h2] at h
  omega
section
variable {q : Br}
/-- A place that both parts have. -/
theorem place {c : Bool × Nat} (i : OkB q) (hc : c ∈ cuts q.1 q.2) {t : Nat} (ht : t ≤ arB q) : ∃ k, k < (eat (oneB q c)).length ∧ k ≤ t ∧ t - k < (eat (twoB q c)).length := by
  rw [eat_len (i.one hc).1, eat_len (i.two hc).1]
  have sp := ar_split hc
  by_cases h : t ≤ arB (oneB q c)
  · exact ⟨t, by omega, Nat.le_refl _, by omega⟩
  · exact ⟨arB (oneB q c), by omega, by omega, by omega⟩
theorem stepE_rd' {c : Bool × Nat} (i : OkB q) (hc : c ∈ cuts q.1 q.2) (h1 : NN (eat (oneB q c))) (h2 : NN (eat (twoB q c))) {o : List Int} (ho : o.length = arB q + 1) {t : Nat} (ht : t ≤ arB q) : rd (stepE q o c) (t : Int) = stepT q t (rd o (t : Int)) c ∧ 0 ≤ MV q c t := by
  have sp := ar_split hc
  have sq := sqB_bd i c
  obtain ⟨k, hk1, hk2⟩ := place i hc ht
  have hp : 0 ≤ MV q c t := mnS_pos h1 h2 t _ k hk1 hk2
  refine ⟨?_, hp⟩
  unfold stepE
  rw [inI_rd _ _ _ _ _ _ (by rw [eat_len (i.one hc).1, eat_len (i.two hc).1]; omega)]
  rcases accI_mnS h1 h2 (show 0 ≤ sqB q c by omega) (rd o (t : Int)) t (eat (oneB q c)).length with ⟨e, _⟩ | ⟨_, e⟩
  · exact absurd (show MV q c t = -1 from e) (by omega)
  · exact e
theorem foldT_rd (i : OkB q) {t : Nat} (ht : t ≤ arB q) : ∀ (cs : List (Bool × Nat)) (o : List Int), (∀ c ∈ cs, c ∈ cuts q.1 q.2 ∧ NN (eat (oneB q c)) ∧ NN (eat (twoB q c))) → o.length = arB q + 1 → rd (cs.foldl (stepE q) o) (t : Int) = cs.foldl (stepT q t) (rd o (t : Int))
  | [], o, _, _ => rfl
  | c :: cs, o, h, ho => by
    obtain ⟨h1, h2, h3⟩ := h c (by simp)
    rw [List.foldl_cons, List.foldl_cons, foldT_rd i ht cs _ (fun c' h' => h c' (by simp [h'])) (by unfold stepE; rw [inI_len]; exact ho), (stepE_rd' i h1 h2 h3 ho ht).1]
theorem foldT_low {t : Nat} : ∀ (cs : List (Bool × Nat)) (v : Int), (∀ c ∈ cs, 0 ≤ sqB q c + MV q c t) → 0 ≤ v → 0 ≤ cs.foldl (stepT q t) v ∧ cs.foldl (stepT q t) v ≤ v
  | [], v, _, h => ⟨h, Int.le_refl _⟩
  | c :: cs, v, h, hv => by
    rw [List.foldl_cons]
    have h1 := h c (by simp)
    have h2 : 0 ≤ stepT q t v c ∧ stepT q t v c ≤ v := by
      unfold stepT
      rcases lessI_cases v (sqB q c + MV q c t) with ⟨_, e⟩ | ⟨_, _, e⟩ | ⟨_, _, e⟩ <;> rw [e] <;> omega
    have := foldT_low cs (stepT q t v c) (fun c' h' => h c' (by simp [h'])) h2.1
    omega
end
theorem eat_nn' : ∀ (s : Nat) (q : Br), OkB q → szB q ≤ s → NN (eat q) := by
  intro s
  induction s with
  | zero => intro q i h; exact absurd i.1 (by unfold szB at h; omega)
  | succ s ih =>
    intro q i hs x hx
    obtain ⟨t, ht, rfl⟩ := List.mem_iff_getElem.1 hx
    have hl := eat_len i
    have hta : t ≤ arB q := by omega
    rw [← rd_lt (eat q) t ht, eat_eq i]
    have hparts : ∀ c ∈ cuts q.1 q.2, c ∈ cuts q.1 q.2 ∧ NN (eat (oneB q c)) ∧ NN (eat (twoB q c)) := fun c hc => ⟨hc, ih _ (i.one hc).1 (by have := (i.one hc).2; omega), ih _ (i.two hc).1 (by have := (i.two hc).2; omega)⟩
    rw [foldT_rd i hta _ _ hparts (iniE_len q), iniE_rd i]
    have hv : ∀ c ∈ cuts q.1 q.2, 0 ≤ sqB q c + MV q c t := fun c hc => by
      have := (stepE_rd' i hc (hparts c hc).2.1 (hparts c hc).2.2 (iniE_len q) hta).2
      have := sqB_bd i c
      omega
    by_cases e : 1 ≤ t ∧ t < arB q
    · rw [if_pos e]
      obtain ⟨c, cs, hcs⟩ := List.exists_cons_of_ne_nil (cuts_ne i (by omega))
      rw [hcs, List.foldl_cons]
      have h1 := hv c (by rw [hcs]; simp)
      have h2 : stepT q t (-1) c = sqB q c + MV q c t := rfl
      rw [h2]
      exact (foldT_low cs _ (fun c' h' => hv c' (by rw [hcs]; simp [h'])) h1).1
    · rw [if_neg e]
      exact (foldT_low _ 0 hv (Int.le_refl _)).1
theorem eat_nn {q : Br} (i : OkB q) : NN (eat q) := eat_nn' _ q i (Nat.le_refl _)
section
variable {q : Br}
theorem MV_pos (i : OkB q) {c : Bool × Nat} (hc : c ∈ cuts q.1 q.2) {t : Nat} (ht : t ≤ arB q) : 0 ≤ MV q c t := by
  obtain ⟨k, hk1, hk2⟩ := place i hc ht
  exact mnS_pos (eat_nn (i.one hc).1) (eat_nn (i.two hc).1) t _ k hk1 hk2
theorem eat_rd (i : OkB q) {t : Nat} (ht : t ≤ arB q) : rd (eat q) (t : Int) = (cuts q.1 q.2).foldl (stepT q t) (if 1 ≤ t ∧ t < arB q then -1 else 0) := by
  have hparts : ∀ c ∈ cuts q.1 q.2, c ∈ cuts q.1 q.2 ∧ NN (eat (oneB q c)) ∧ NN (eat (twoB q c)) := fun c hc => ⟨hc, eat_nn (i.one hc).1, eat_nn (i.two hc).1⟩
  rw [eat_eq i, foldT_rd i ht _ _ hparts (iniE_len q), iniE_rd i]
theorem sum_pos (i : OkB q) {t : Nat} (ht : t ≤ arB q) : ∀ c ∈ cuts q.1 q.2, 1 ≤ sqB q c + MV q c t := fun c hc => by
  have := MV_pos i hc ht
  have := sqB_bd i c
  omega
theorem eat_ends (i : OkB q) {t : Nat} (ht : t ≤ arB q) (he : ¬ (1 ≤ t ∧ t < arB q)) : rd (eat q) (t : Int) = 0 := by
  rw [eat_rd i ht, if_neg he]
  have := foldT_low (q := q) (t := t) (cuts q.1 q.2) 0 (fun c hc => by have := sum_pos i ht c hc; omega) (Int.le_refl _)
  omega
/-- The least: not above what any break gives, and given by one. -/
theorem foldT_min {t : Nat} : ∀ (cs : List (Bool × Nat)) (v : Int), (∀ c ∈ cs, 0 ≤ sqB q c + MV q c t) → 0 ≤ v → (∀ c ∈ cs, cs.foldl (stepT q t) v ≤ sqB q c + MV q c t) ∧ (cs.foldl (stepT q t) v = v ∨ ∃ c ∈ cs, cs.foldl (stepT q t) v = sqB q c + MV q c t)
  | [], v, _, h => ⟨fun c hc => by simp at hc, .inl rfl⟩
  | c :: cs, v, h, hv => by
    rw [List.foldl_cons]
    have h1 := h c (by simp)
    have h2 : 0 ≤ stepT q t v c ∧ stepT q t v c ≤ sqB q c + MV q c t ∧ (stepT q t v c = v ∨ stepT q t v c = sqB q c + MV q c t) := by
      unfold stepT
      rcases lessI_cases v (sqB q c + MV q c t) with ⟨_, e⟩ | ⟨_, _, e⟩ | ⟨_, _, e⟩ <;> rw [e] <;> omega
    have h3 := foldT_low cs (stepT q t v c) (fun c' h' => h c' (by simp [h'])) h2.1
    obtain ⟨h4, h5⟩ := foldT_min cs (stepT q t v c) (fun c' h' => h c' (by simp [h'])) h2.1
    refine ⟨fun c' h' => ?_, ?_⟩
    · rcases List.mem_cons.1 h' with rfl | h'
      · omega
      · exact h4 c' h'
    · rcases h5 with h5 | ⟨c', h', h5⟩
      · rcases h2.2.2 with h6 | h6
        · exact .inl (by omega)
        · exact .inr ⟨c, by simp, by omega⟩
      · exact .inr ⟨c', by simp [h'], h5⟩
theorem eat_min (i : OkB q) {t : Nat} (h1 : 1 ≤ t) (h2 : t < arB q) : (∀ c ∈ cuts q.1 q.2, rd (eat q) (t : Int) ≤ sqB q c + MV q c t) ∧ ∃ c ∈ cuts q.1 q.2, rd (eat q) (t : Int) = sqB q c + MV q c t := by
  have hp := sum_pos i (t := t) (by omega)
  rw [eat_rd i (by omega), if_pos ⟨h1, h2⟩]
  obtain ⟨c, cs, hcs⟩ := List.exists_cons_of_ne_nil (cuts_ne i (by omega))
  rw [hcs] at hp ⊢
  rw [List.foldl_cons, show stepT q t (-1) c = sqB q c + MV q c t from rfl]
  have h0 := hp c (by simp)
  have h3 := foldT_low (q := q) (t := t) cs (sqB q c + MV q c t) (fun c' h' => by have := hp c' (by simp [h']); omega) (by omega)
  obtain ⟨h4, h5⟩ := foldT_min (q := q) (t := t) cs (sqB q c + MV q c t) (fun c' h' => by have := hp c' (by simp [h']); omega) (by omega)
  refine ⟨fun c' h' => ?_, ?_⟩
  · rcases List.mem_cons.1 h' with rfl | h'
    · exact h3.2
    · exact h4 c' h'
  · rcases h5 with h5 | ⟨c', h', h5⟩
    · exact ⟨c, by simp, h5⟩
    · exact ⟨c', by simp [h'], h5⟩
end
end Go.Proofs.Ythlnpbdjblocfaa.Pure
