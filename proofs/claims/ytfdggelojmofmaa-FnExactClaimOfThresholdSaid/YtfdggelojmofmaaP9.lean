/- Plain laws of the texts: influences, and what is kept of a table. -/
import Derived.Test.YtfdggelojmofmaaP8
namespace Go.Proofs.Ytfdggelojmofmaa
open Go.Rv
set_option linter.unusedVariables false
variable {β : Type}
/-- How many numbers below one are such. -/
def cnt (g : Nat → Bool) : Nat → Nat
  | 0 => 0
  | m + 1 => cnt g m + (if g m then 1 else 0)
theorem cnt_le (g : Nat → Bool) : ∀ m, cnt g m ≤ m
  | 0 => Nat.le_refl _
  | m + 1 => by have := cnt_le g m; simp only [cnt]; split <;> omega
theorem cnt_congr {g h : Nat → Bool} : ∀ {m : Nat}, (∀ i, i < m → g i = h i) → cnt g m = cnt h m
  | 0, _ => rfl
  | m + 1, e => by simp only [cnt]; rw [cnt_congr (m := m) fun i hi => e i (by omega), e m (by omega)]
theorem cnt_shift (g : Nat → Bool) : ∀ m, cnt g (m + 1) = (if g 0 then 1 else 0) + cnt (fun i => g (i + 1)) m
  | 0 => by simp [cnt]
  | m + 1 => by
    have := cnt_shift g m
    rw [cnt, this]
    simp only [cnt]
    omega
theorem pc_cnt : ∀ (f w : Nat), pc f w = cnt w.testBit f
  | 0, _ => rfl
  | f + 1, w => by
    rw [cnt_shift, pc, pc_cnt f (w / 2)]
    congr 1
    · rw [Nat.testBit_zero]
      have := Nat.mod_two_eq_zero_or_one w
      rcases this with h | h <;> simp [h]
    · exact cnt_congr fun i _ => (Nat.testBit_succ w i).symm ▸ rfl
/-- One place turned. -/
theorem cnt_flip {g h : Nat → Bool} (x : Nat) (hx : h x = !g x) (hne : ∀ i, i ≠ x → h i = g i) : ∀ m, x < m → cnt h m + (if g x then 1 else 0) = cnt g m + (if g x then 0 else 1)
  | 0, hlt => by omega
  | m + 1, hlt => by
    simp only [cnt]
    by_cases e : x = m
    · subst e
      rw [cnt_congr (m := x) (g := h) (h := g) fun i hi => hne i (by omega), hx]
      cases g x <;> simp <;> omega
    · have := cnt_flip x hx hne m (by omega)
      rw [hne m (Ne.symm e)]
      omega

/-- Whether a variable matters at an input. -/
def edge (w i x : Nat) : Bool := w.testBit x != w.testBit (x ^^^ 2 ^ i)
def infl (w i m : Nat) : Nat := cnt (edge w i) m
def infls (w n m : Nat) : List Int := (List.range m).map fun i => ((infl w i (2 ^ n) : Nat) : Int)
theorem infls_len (w n m : Nat) : (infls w n m).length = m := by simp [infls]
theorem infls_succ (w n m : Nat) : infls w n (m + 1) = infls w n m ++ [((infl w m (2 ^ n) : Nat) : Int)] := by simp [infls, List.range_succ]
theorem infls_get (w n m i : Nat) (h : i < m) : (infls w n m)[i]? = some ((infl w i (2 ^ n) : Nat) : Int) := by simp [infls, h]

theorem spec_bit2 (w x y : Nat) (hw : w < 4294967296) : bits .and .i64 (bits .xor .i64 (shrI .i64 (w : Int) (x : Int)) (shrI .i64 (w : Int) (y : Int))) 1 = ((if w.testBit x != w.testBit y then 1 else 0 : Nat) : Int) := by
  have h1 : w / 2 ^ x < 2 ^ 63 := Nat.lt_of_le_of_lt (Nat.div_le_self _ _) (by omega)
  have h2 : w / 2 ^ y < 2 ^ 63 := Nat.lt_of_le_of_lt (Nat.div_le_self _ _) (by omega)
  rw [shr_nat w x (by omega), shr_nat w y (by omega), bXor _ _ h1 h2]
  have h3 : w / 2 ^ x ^^^ w / 2 ^ y < 2 ^ 63 := Nat.xor_lt_two_pow h1 h2
  have h4 := bit_at (w / 2 ^ x ^^^ w / 2 ^ y) 0 (by omega)
  have h5 : shrI .i64 ((w / 2 ^ x ^^^ w / 2 ^ y : Nat) : Int) ((0 : Nat) : Int) = ((w / 2 ^ x ^^^ w / 2 ^ y : Nat) : Int) := by
    rw [shr_nat _ 0 (by omega)]; simp
  rw [h5] at h4
  rw [h4]
  have e : ∀ m x : Nat, (m / 2 ^ x).testBit 0 = m.testBit x := fun m x => by
    rw [Nat.testBit_zero, Nat.testBit, Nat.shiftRight_eq_div_pow, Nat.and_comm, Nat.and_one_is_mod]
    have := Nat.mod_two_eq_zero_or_one (m / 2 ^ x)
    rcases this with h | h <;> simp [h]
  rw [Nat.testBit_xor, e, e]

/-- What is kept of whatever is handed. -/
def keptOnes (a0 a1 : Int) : Int := if isT a0 a1 then ones a1.toNat else 0
def keptList (a0 a1 : Int) : List Int := if isT a0 a1 then infls a1.toNat a0.toNat a0.toNat else []
theorem keptList_len (a0 a1 : Int) : (keptList a0 a1).length ≤ 5 := by
  unfold keptList
  split
  · rename_i h
    obtain ⟨n, w, rfl, rfl, hn, -, -⟩ := isT_nat h
    rw [infls_len]
    omega
  · simp
def ifT (a0 a1 v : Int) : Int := if isT a0 a1 then v else 0
end Go.Proofs.Ytfdggelojmofmaa
