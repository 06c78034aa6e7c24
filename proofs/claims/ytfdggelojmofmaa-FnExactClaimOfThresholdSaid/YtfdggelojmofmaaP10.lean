/- Plain laws of the texts: counts are kept under flips. -/
import Derived.Test.YtfdggelojmofmaaP9
namespace Go.Proofs.Ytfdggelojmofmaa
open Go.Rv
set_option linter.unusedVariables false
set_option maxRecDepth 100000
variable {β : Type}
theorem bit_flip (w x y : Nat) : (w ^^^ 2 ^ x).testBit y = (w.testBit y ^^ decide (x = y)) := by
  rw [Nat.testBit_xor, Nat.testBit_two_pow]
theorem ones_flip (w x : Nat) (hx : x < 32) : ones (w ^^^ 2 ^ x) + (if w.testBit x then 1 else 0) = ones w + (if w.testBit x then 0 else 1) := by
  unfold ones
  rw [pc_cnt, pc_cnt]
  exact cnt_flip x (by rw [bit_flip]; simp) (fun i hi => by rw [bit_flip]; simp [Ne.symm hi]) 32 hx
theorem xor_self_cancel (a b : Nat) : a ^^^ b ^^^ b = a := by rw [Nat.xor_assoc, Nat.xor_self, Nat.xor_zero]
theorem xor_ne (x i : Nat) : x ^^^ 2 ^ i ≠ x := fun h => by
  have h1 := congrArg (fun t => t ^^^ x) h
  simp only [Nat.xor_self] at h1
  rw [Nat.xor_comm x, xor_self_cancel] at h1
  have := Nat.two_pow_pos i
  omega
theorem edge_sym (w i x : Nat) : edge w i (x ^^^ 2 ^ i) = edge w i x := by
  unfold edge
  rw [xor_self_cancel]
  cases w.testBit x <;> cases w.testBit (x ^^^ 2 ^ i) <;> rfl
theorem infl_flip (w n i x : Nat) (hi : i < n) (hx : x < 2 ^ n) : infl (w ^^^ 2 ^ x) i (2 ^ n) + (if edge w i x then 4 else 0) = infl w i (2 ^ n) + 2 := by
  have hp : x ^^^ 2 ^ i < 2 ^ n := Nat.xor_lt_two_pow hx (Nat.pow_lt_pow_right (by decide) hi)
  have hne := xor_ne x i
  let g : Nat → Bool := fun y => if y = x then !edge w i x else edge w i y
  have h1 := cnt_flip (g := edge w i) (h := g) x (by simp [g]) (fun y hy => by simp [g, hy]) (2 ^ n) hx
  have h2 := cnt_flip (g := g) (h := edge (w ^^^ 2 ^ x) i) (x ^^^ 2 ^ i) (by
      simp only [g, hne, if_false, edge_sym]
      rw [← edge_sym]
      simp only [edge, bit_flip, xor_self_cancel]
      simp only [hne.symm, decide_true, decide_false, Bool.xor_false, Bool.xor_true]
      cases w.testBit x <;> cases w.testBit (x ^^^ 2 ^ i) <;> rfl) (fun y hy => by
      by_cases e : y = x
      · subst e
        simp only [g, if_true, edge, bit_flip, decide_true, Bool.xor_true]
        simp only [hne.symm, decide_false, Bool.xor_false]
        cases w.testBit y <;> cases w.testBit (y ^^^ 2 ^ i) <;> rfl
      · have e2 : ¬ x = y ^^^ 2 ^ i := fun h => hy (by rw [h, xor_self_cancel])
        simp only [g, e, if_false, edge, bit_flip]
        simp [Ne.symm e, e2]) (2 ^ n) hp
  have h3 : g (x ^^^ 2 ^ i) = edge w i x := by simp [g, hne, edge_sym]
  rw [h3] at h2
  unfold infl
  cases he : edge w i x with
  | true => rw [he] at h1 h2; simp at h1 h2 ⊢; omega
  | false => rw [he] at h1 h2; simp at h1 h2 ⊢; omega

/-- Whether what is kept is right. -/
def isKept (a0 a1 a2 : Int) (l : List Int) : Bool := isT a0 a1 && (a2 == keptOnes a0 a1 && l == keptList a0 a1)
/-- A word flipped at all of some inputs. -/
def flips (w : Nat) (l : List Int) : Nat := l.foldl (fun w x => w ^^^ 2 ^ x.toNat) w
theorem flips_lt (n : Nat) : ∀ (l : List Int) (w : Nat), w < 2 ^ 2 ^ n → (l.all fun x => decide (0 ≤ x) && decide (x < ((2 ^ n : Nat) : Int))) = true → flips w l < 2 ^ 2 ^ n
  | [], w, hw, _ => hw
  | x :: l, w, hw, h => by
    simp only [List.all_cons, Bool.and_eq_true, decide_eq_true_eq] at h
    have hx : x.toNat < 2 ^ n := by omega
    exact flips_lt n l _ (Nat.xor_lt_two_pow hw (Nat.pow_lt_pow_right (by decide) hx)) (by simpa using h.2)
theorem isIn_n (n w : Nat) (hn : n ≤ 5) (hw : w < 2 ^ 2 ^ n) (x : Int) : isIn (n : Int) (w : Int) x = (decide (0 ≤ x) && decide (x < ((2 ^ n : Nat) : Int))) := by
  unfold isIn
  rw [isT_of hn hw]
  simp

/-- Whether a table may be flipped so. -/
def flipsOK (a0 a1 a2 : Int) (l m : List Int) : Bool := isKept a0 a1 a2 l && (decide (m.length ≤ 40) && m.all (isIn a0 a1))
theorem isKept_nat {a0 a1 a2 : Int} {l : List Int} (h : isKept a0 a1 a2 l = true) : ∃ n w : Nat, a0 = n ∧ a1 = w ∧ n ≤ 5 ∧ w < 2 ^ 2 ^ n ∧ a2 = ones w ∧ l = infls w n n := by
  simp only [isKept, Bool.and_eq_true, beq_iff_eq] at h
  obtain ⟨ht, h1, h2⟩ := h
  unfold keptOnes at h1
  unfold keptList at h2
  rw [if_pos ht] at h1 h2
  obtain ⟨n, w, rfl, rfl, hn, hw, hw'⟩ := isT_nat ht
  exact ⟨n, w, rfl, rfl, hn, hw, by simpa using h1, by simpa using h2⟩

theorem flipped_len {a0 a1 a2 : Int} {l m : List Int} (h : flipsOK a0 a1 a2 l m = true) (w : Nat) : (infls w a0.toNat a0.toNat).length ≤ 5 := by
  simp only [flipsOK, Bool.and_eq_true] at h
  obtain ⟨n, w', rfl, rfl, hn, -, -, -⟩ := isKept_nat h.1
  rw [infls_len]
  omega
end Go.Proofs.Ytfdggelojmofmaa
