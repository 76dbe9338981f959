/- The least costs of eating, in the program's own order, in plain numbers. Conditions: a bar of sides 1 to 12. -/
import Derived.Test.YthlnpbdjblocfaaUCut
namespace Go.Proofs.Ythlnpbdjblocfaa.Pure
open Go Go.RowKit Go.Proofs.Ythlnpbdjblocfaa.P Go.Proofs.YthlnpbdjblocfaaW.PrintWords Go.Proofs.YthlnpbdjblocfaaW.PrintLast Go.Proofs.YthlnpbdjblocfaaW.PrintMore
set_option linter.unusedVariables false
set_option linter.unusedSimpArgs false
/-- One cost is told for so many squares. -/
def upd (o : List Int) (j : Nat) (x : Int) : List Int := if rd o (j : Int) < 0 ∨ x < rd o (j : Int) then o.set j x else o
def inK (c m : Int) (s : List Int) (i : Nat) (o : List Int) : Nat → List Int
  | 0 => o
  | n + 1 => upd (inK c m s i o n) (i + n) (c + m + rd s (n : Int))
def inI (c : Int) (f s : List Int) (o : List Int) : Nat → List Int
  | 0 => o
  | n + 1 => inK c (rd f (n : Int)) s n (inI c f s o n) s.length
def iniU (o : List Int) : Nat → List Int
  | 0 => o
  | n + 1 => (iniU o n).set (n + 1) (-1)
def iniE (q : Br) : List Int := iniU (List.replicate (arB q + 1) 0) (arB q - 1)
def lnB (q : Br) (c : Bool × Nat) : Nat := if c.1 then q.2 else q.1
def sqB (q : Br) (c : Bool × Nat) : Int := ((lnB q c * lnB q c : Nat) : Int)
def eatF : Nat → Br → List Int
  | 0, _ => []
  | k + 1, q => (cuts q.1 q.2).foldl (fun o c => inI (sqB q c) (eatF k (oneB q c)) (eatF k (twoB q c)) o (eatF k (oneB q c)).length) (iniE q)
theorem eatF_fuel : ∀ (k k' : Nat) (q : Br), OkB q → szB q ≤ k → szB q ≤ k' → eatF k q = eatF k' q
  | 0, _, q, i, h, _ => absurd i.1 (by unfold szB at h; omega)
  | k + 1, 0, q, i, _, h => absurd i.1 (by unfold szB at h; omega)
  | k + 1, k' + 1, q, i, h, h' => by
    simp only [eatF]
    refine foldl_congr_mem _ _ (fun o c hc => ?_)
    have h1 := i.one hc
    have h2 := i.two hc
    rw [eatF_fuel k k' (oneB q c) h1.1 (by omega) (by omega), eatF_fuel k k' (twoB q c) h2.1 (by omega) (by omega)]
/-- The costs for each number of squares of a bar. -/
def eat (q : Br) : List Int := eatF 30 q
def stepE (q : Br) (o : List Int) (c : Bool × Nat) : List Int := inI (sqB q c) (eat (oneB q c)) (eat (twoB q c)) o (eat (oneB q c)).length
theorem eat_eq {q : Br} (i : OkB q) : eat q = (cuts q.1 q.2).foldl (stepE q) (iniE q) := by
  have hs : szB q ≤ 24 := by simp only [OkB] at i; unfold szB; omega
  unfold eat
  rw [eatF_fuel 30 31 q i (by omega) (by omega)]
  rw [eatF]
  rfl
def eatUp (q : Br) (cs : List (Bool × Nat)) (n : Nat) : List Int := (cs.take n).foldl (stepE q) (iniE q)
theorem eatUp_succ (q : Br) (cs : List (Bool × Nat)) (n : Nat) (h : n < cs.length) : eatUp q cs (n + 1) = stepE q (eatUp q cs n) cs[n] := by
  unfold eatUp
  rw [List.take_succ_eq_append_getElem h, List.foldl_append]
  rfl
theorem upd_len (o : List Int) (j : Nat) (x : Int) : (upd o j x).length = o.length := by
  unfold upd
  split
  · rw [List.length_set]
  · rfl
theorem inK_len (c m : Int) (s : List Int) (i : Nat) (o : List Int) : ∀ n, (inK c m s i o n).length = o.length
  | 0 => rfl
  | n + 1 => by rw [inK, upd_len, inK_len c m s i o n]
theorem inI_len (c : Int) (f s o : List Int) : ∀ n, (inI c f s o n).length = o.length
  | 0 => rfl
  | n + 1 => by rw [inI, inK_len, inI_len c f s o n]
theorem iniU_len (o : List Int) : ∀ n, (iniU o n).length = o.length
  | 0 => rfl
  | n + 1 => by rw [iniU, List.length_set, iniU_len o n]
theorem iniE_len (q : Br) : (iniE q).length = arB q + 1 := by unfold iniE; rw [iniU_len, List.length_replicate]
theorem fold_len (q : Br) : ∀ (cs : List (Bool × Nat)) (o : List Int), (cs.foldl (stepE q) o).length = o.length
  | [], o => rfl
  | c :: cs, o => by rw [List.foldl_cons, fold_len q cs]; exact inI_len _ _ _ _ _
theorem eatUp_len (q : Br) (cs : List (Bool × Nat)) (n : Nat) : (eatUp q cs n).length = arB q + 1 := by unfold eatUp; rw [fold_len, iniE_len]
theorem eat_len {q : Br} (i : OkB q) : (eat q).length = arB q + 1 := by rw [eat_eq i, fold_len, iniE_len]
/-- Every cost is -1 or more, and not above a bound. -/
def Bd (B : Int) (o : List Int) : Prop := ∀ x ∈ o, -1 ≤ x ∧ x ≤ B
theorem Bd.rd {B : Int} {o : List Int} (h : Bd B o) (hB : 0 ≤ B) (j : Nat) : -1 ≤ rd o (j : Int) ∧ rd o (j : Int) ≤ B := by
  by_cases hj : j < o.length
  · rw [rd_lt o j hj]
    exact h _ (List.getElem_mem hj)
  · have : _root_.Go.Proofs.YthlnpbdjblocfaaW.PrintWords.rd o (j : Int) = 0 := by
      unfold Go.Proofs.YthlnpbdjblocfaaW.PrintWords.rd
      rw [Int.toNat_natCast, List.getD_eq_getElem?_getD, List.getElem?_eq_none (by omega)]
      rfl
    rw [this]
    omega
theorem Bd.set {B : Int} {o : List Int} (h : Bd B o) (j : Nat) {x : Int} (h1 : -1 ≤ x) (h2 : x ≤ B) : Bd B (o.set j x) := by
  intro y hy
  rcases List.mem_or_eq_of_mem_set hy with hy | rfl
  · exact h y hy
  · exact ⟨h1, h2⟩
theorem Bd.upd {B : Int} {o : List Int} (h : Bd B o) (j : Nat) {x : Int} (h1 : -1 ≤ x) (h2 : x ≤ B) : Bd B (upd o j x) := by
  unfold Pure.upd
  split
  · exact h.set j h1 h2
  · exact h
theorem inK_bd {B c m Bs : Int} {s : List Int} (hs : Bd Bs s) (hBs : 0 ≤ Bs) (hc : 1 ≤ c) (hm : -1 ≤ m) (hB : c + m + Bs ≤ B) (i : Nat) {o : List Int} (h : Bd B o) : ∀ n, Bd B (inK c m s i o n)
  | 0 => h
  | n + 1 => by
    have h1 := hs.rd hBs n
    exact (inK_bd hs hBs hc hm hB i h n).upd _ (by omega) (by omega)
theorem inI_bd {B c Bf Bs : Int} {f s : List Int} (hf : Bd Bf f) (hs : Bd Bs s) (hBf : 0 ≤ Bf) (hBs : 0 ≤ Bs) (hc : 1 ≤ c) (hB : c + Bf + Bs ≤ B) {o : List Int} (h : Bd B o) : ∀ n, Bd B (inI c f s o n)
  | 0 => h
  | n + 1 => by
    have h1 := hf.rd hBf n
    exact inK_bd hs hBs hc h1.1 (by omega) n (inI_bd hf hs hBf hBs hc hB h n) _
def topE (q : Br) : Int := 144 * ((arB q : Nat) : Int) - 144
theorem ini_bd {q : Br} (i : OkB q) : Bd (topE q) (iniE q) := by
  have ha := i.area.1
  have h0 : 0 ≤ topE q := by unfold topE; omega
  have key : ∀ n, Bd (topE q) (iniU (List.replicate (arB q + 1) 0) n) := by
    intro n
    induction n with
    | zero =>
      intro x hx
      have := List.eq_of_mem_replicate hx
      omega
    | succ n ih => exact ih.set _ (by omega) (by omega)
  exact key _
theorem sqB_bd {q : Br} (i : OkB q) (c : Bool × Nat) : 1 ≤ sqB q c ∧ sqB q c ≤ 144 := by
  have h : 1 ≤ lnB q c ∧ lnB q c ≤ 12 := by
    simp only [OkB] at i
    unfold lnB
    split <;> omega
  have h1 := Nat.mul_le_mul h.2 h.2
  have h2 := Nat.mul_le_mul h.1 h.1
  unfold sqB
  omega
theorem eat_bd' : ∀ (s : Nat) (q : Br), OkB q → szB q ≤ s → Bd (topE q) (eat q) := by
  intro s
  induction s with
  | zero => intro q i h; exact absurd i.1 (by unfold szB at h; omega)
  | succ s ih =>
    intro q i hs
    rw [eat_eq i]
    have key : ∀ (cs : List (Bool × Nat)), (∀ c ∈ cs, c ∈ cuts q.1 q.2) → ∀ o, Bd (topE q) o → Bd (topE q) (cs.foldl (stepE q) o) := by
      intro cs
      induction cs with
      | nil => intro _ o h; exact h
      | cons c cs ihc =>
        intro hc o h
        rw [List.foldl_cons]
        refine ihc (fun c' h' => hc c' (by simp [h'])) _ ?_
        have hm := hc c (by simp)
        have h1 := i.one hm
        have h2 := i.two hm
        have a1 := h1.1.area.1
        have a2 := h2.1.area.1
        have sp := ar_split hm
        have sq := sqB_bd i c
        exact inI_bd (ih _ h1.1 (by omega)) (ih _ h2.1 (by omega)) (by unfold topE; omega) (by unfold topE; omega) sq.1 (by unfold topE; omega) h _
    exact key _ (fun c h => h) _ (ini_bd i)
theorem eat_bd {q : Br} (i : OkB q) : Bd (topE q) (eat q) := eat_bd' _ q i (Nat.le_refl _)
theorem eatUp_bd {q : Br} (i : OkB q) {cs : List (Bool × Nat)} (hcs : cuts q.1 q.2 = cs) (n : Nat) (hn : n ≤ cs.length) : Bd (topE q) (eatUp q cs n) := by
  induction n with
  | zero => exact ini_bd i
  | succ n ih =>
    rw [eatUp_succ q cs n (by omega)]
    have hm : cs[n] ∈ cuts q.1 q.2 := by rw [hcs]; exact List.getElem_mem _
    have h1 := i.one hm
    have h2 := i.two hm
    have a1 := h1.1.area.1
    have a2 := h2.1.area.1
    have sp := ar_split hm
    have sq := sqB_bd i cs[n]
    exact inI_bd (eat_bd h1.1) (eat_bd h2.1) (by unfold topE; omega) (by unfold topE; omega) sq.1 (by unfold topE; omega) (ih (by omega)) _
end Go.Proofs.Ythlnpbdjblocfaa.Pure
