/- Plain laws of the texts: the inputs that detect a fault, and test sets. -/
import Derived.Test.YtfdggelojmofmaaDoorP6
namespace Go.Proofs.YtfdggelojmofmaaDoor
open Go.Rv
set_option linter.unusedVariables false
variable {β : Type}
theorem spec_l1In_eq (N : Nat) (a b c : Int) (k : Bool → Option β) : spec_l1In N a b c k = k (decide (b ≤ a) && decide (a ≤ c)) := by
  unfold spec_l1In
  by_cases h : b ≤ a
  · rw [decide_eq_true (by omega : a ≥ b)]; rfl
  · rw [decide_eq_false (by omega : ¬ a ≥ b)]; rfl
/-- Whether there is such a fault. -/
def isF (a0 a1 a2 a3 : Int) : Bool := isT a0 a1 && (decide (0 ≤ a2) && decide (a2 < a0)) && (decide (0 ≤ a3) && decide (a3 ≤ 1))
theorem isF_nat {a0 a1 a2 a3 : Int} (h : isF a0 a1 a2 a3 = true) : ∃ n w i b : Nat, a0 = n ∧ a1 = w ∧ a2 = i ∧ a3 = b ∧ n ≤ 5 ∧ w < 2 ^ 2 ^ n ∧ w < 4294967296 ∧ i < n ∧ b < 2 := by
  simp only [isF, Bool.and_eq_true, decide_eq_true_eq] at h
  obtain ⟨⟨ht, h0⟩, h1⟩ := h
  obtain ⟨n, w, rfl, rfl, hn, hw, hw'⟩ := isT_nat ht
  exact ⟨n, w, a2.toNat, a3.toNat, rfl, rfl, by omega, by omega, hn, hw, hw', by omega, by omega⟩
/-- The word of a table whose variable is stuck. -/
def stuckw (w n i b : Nat) : Nat := tabw (fun x => w.testBit (ys x i b)) (2 ^ n)
/-- The numbers of a set. -/
def elems (d : Nat) : Nat → List Int
  | 0 => []
  | m + 1 => addIf (d.testBit m) (elems d m) (m : Int)
theorem elems_len (d : Nat) : ∀ m, (elems d m).length ≤ m
  | 0 => by simp [elems]
  | m + 1 => by
    have h1 := elems_len d m
    have h2 := addIf_len (d.testBit m) (elems d m) (m : Int)
    show (addIf _ _ _).length ≤ _
    omega
theorem elems_more (d m : Nat) (h : d < 2 ^ m) : ∀ j, elems d (m + j) = elems d m
  | 0 => rfl
  | j + 1 => by
    show addIf (d.testBit (m + j)) (elems d (m + j)) _ = _
    rw [elems_more d m h j, Nat.testBit_lt_two_pow (Nat.lt_of_lt_of_le h (Nat.pow_le_pow_right (by decide) (by omega)))]
    rfl

theorem addIf_step (c : Bool) (l : List Int) (v : Int) (hl : l.length ≤ 1000) (r : List Int → Option β) :
    cond c (gd (decide ((l.length + (([] : List Int) ++ [v]).length) * 8 ≤ 140737488355328)) (r (l ++ (([] : List Int) ++ [v])))) (r l) = r (addIf c l v) := by
  cases c with
  | true => rw [gd_true (decide_eq_true (by simp; omega))]; rfl
  | false => rfl

def detInputs (a0 a1 a2 a3 : Int) : List Int := if isF a0 a1 a2 a3 then elems (a1.toNat ^^^ stuckw a1.toNat a0.toNat a2.toNat a3.toNat) 32 else []
theorem detInputs_len (a0 a1 a2 a3 : Int) : (detInputs a0 a1 a2 a3).length ≤ 32 := by
  unfold detInputs
  split
  · exact elems_len _ _
  · simp
theorem stuckw_lt (w n i b : Nat) : stuckw w n i b < 2 ^ 2 ^ n := tabw_lt _ _
theorem two32 {n w : Nat} (hn : n ≤ 5) (hw : w < 2 ^ 2 ^ n) : w < 4294967296 := Nat.lt_of_lt_of_le hw (Nat.pow_le_pow_right (by decide) (size_le hn) : 2 ^ 2 ^ n ≤ 2 ^ 32)

/-- Whether a set shows a fault that can be shown. -/
def blind (w n s i b : Nat) : Bool := w ^^^ stuckw w n i b != 0 && (w ^^^ stuckw w n i b) &&& s == 0
def blinds (w n s i : Nat) : Bool := blind w n s i 0 || blind w n s i 1
/-- Whether a set shows all faults that can be shown, from a variable on. -/
def shows (w n s : Nat) : Nat → Nat → Bool
  | _, 0 => true
  | i, c + 1 => !blinds w n s i && shows w n s (i + 1) c

theorem blind_step (w n s i b : Nat) (hd : w ^^^ stuckw w n i b < 9223372036854775808) (hs : s < 9223372036854775808) (p q : Option β) :
    cond ((((w ^^^ stuckw w n i b : Nat) : Int)) != 0) (cond (bits .and .i64 ((w ^^^ stuckw w n i b : Nat) : Int) (s : Int) == 0) p q) q = cond (blind w n s i b) p q := by
  unfold blind
  rw [bAnd _ _ hd hs]
  have e : ∀ m : Nat, ((m : Int) != 0) = (m != 0) := fun m => by cases m <;> rfl
  have e2 : ∀ m : Nat, ((m : Int) == 0) = (m == 0) := fun m => by cases m <;> rfl
  rw [e, e2]
  cases (w ^^^ stuckw w n i b != 0) <;> rfl

/-- A set with more numbers. -/
def addAll (s : Nat) (l : List Int) : Nat := l.foldl (fun s x => s ||| 2 ^ x.toNat) s

theorem addAll_lt (P : Int → Bool) (hP : ∀ x, P x = true → 0 ≤ x ∧ x < 32) : ∀ (l : List Int) (s : Nat), s < 4294967296 → l.all P = true → addAll s l < 4294967296
  | [], s, hs, _ => hs
  | x :: l, s, hs, h => by
    simp only [List.all_cons, Bool.and_eq_true] at h
    have hx := hP x h.1
    exact addAll_lt P hP l _ (Nat.or_lt_two_pow (n := 32) hs (Nat.pow_lt_pow_right (by decide) (by omega))) h.2

theorem isIn_lt {a0 a1 a2 : Int} (h : isIn a0 a1 a2 = true) : 0 ≤ a2 ∧ a2 < 32 := by
  obtain ⟨n, w, x, rfl, rfl, rfl, hn, hw, -, hx⟩ := isIn_nat h
  have := size_le hn
  omega

theorem impl_isInput_eq (N n : Nat) (hn : n ≤ 5) (x : Int) (k : Bool → Option β) : impl_isInput N (n : Int) x k = k (decide (0 ≤ x) && decide (x < 2 ^ n)) := by
  have hs := size_le hn
  unfold impl_isInput
  rw [shl_one n (by omega), decide_eq_true (by omega : 0 ≤ (n : Int)), gd_true rfl]
  by_cases h : 0 ≤ x
  · rw [decide_eq_true (by omega : x ≥ 0)]
    simp only [cond_true, Bool.true_and]
    exact congrArg k (decide_eq_decide.2 (by simp))
  · rw [decide_eq_false (by omega : ¬ x ≥ 0)]; rfl

/-- Whether a list is a test set. -/
def testSet (a0 a1 : Int) (l : List Int) : Bool := l.all (isIn a0 a1) && (isT a0 a1 && shows a1.toNat a0.toNat (addAll 0 l) 0 a0.toNat)
end Go.Proofs.YtfdggelojmofmaaDoor
