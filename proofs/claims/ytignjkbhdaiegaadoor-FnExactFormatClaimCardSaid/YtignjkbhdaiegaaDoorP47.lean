/- Simple games: what both texts tell of the players. -/
import Derived.Test.YtignjkbhdaiegaaDoorP45
namespace Go.Proofs.YtignjkbhdaiegaaDoor
open Go.Rv
variable {β : Type}
theorem natq (n m : Nat) : ((n : Int) == (m : Int)) = (n == m) := by
  by_cases h : n = m
  · subst h; simp
  · rw [beq_eq_false_iff_ne.2 h, beq_eq_false_iff_ne.2 (by omega)]
theorem bw_eq0 (w x : Nat) : ((bw w x : Int) == 0) = !w.testBit x := by unfold bw; cases w.testBit x <;> rfl
theorem bw_eq1 (w x : Nat) : ((bw w x : Int) == 1) = w.testBit x := by unfold bw; cases w.testBit x <;> rfl
theorem bw_ne1 (w x : Nat) : ((bw w x : Int) != 1) = !w.testBit x := by unfold bw; cases w.testBit x <;> rfl
theorem bw_ne (w x y : Nat) : ((bw w x : Int) != (bw w y : Int)) = (w.testBit x != w.testBit y) := by unfold bw; cases w.testBit x <;> cases w.testBit y <;> rfl
theorem bit_w (w x : Nat) (hw : w < 9223372036854775808) : bits .and .i64 (shrI .i64 (w : Int) (x : Int)) 1 = (bw w x : Int) := bit_at w x hw

/-- That all below a number are such. -/
def allTo (p : Nat → Bool) : Nat → Bool
  | 0 => true
  | m + 1 => allTo p m && p m
theorem allTo_spec {p : Nat → Bool} : ∀ {m : Nat}, allTo p m = true → ∀ i, i < m → p i = true
  | 0, _, i, h => by omega
  | m + 1, h, i, hi => by
    simp only [allTo, Bool.and_eq_true] at h
    rcases Nat.lt_or_ge i m with h1 | h1
    · exact allTo_spec h.1 i h1
    · have : i = m := by omega
      subst this; exact h.2
theorem allTo_of {p : Nat → Bool} : ∀ {m : Nat}, (∀ i, i < m → p i = true) → allTo p m = true
  | 0, _ => rfl
  | m + 1, h => by
    simp only [allTo, Bool.and_eq_true]
    exact ⟨allTo_of fun i hi => h i (by omega), h m (by omega)⟩
theorem allTo_eq {p q : Nat → Bool} {m m' : Nat} (h : (∀ i, i < m → p i = true) ↔ (∀ i, i < m' → q i = true)) : allTo p m = allTo q m' := by
  cases h1 : allTo p m with
  | true => exact (allTo_of (h.1 (allTo_spec h1))).symm
  | false =>
    cases h2 : allTo q m' with
    | false => rfl
    | true => rw [allTo_of (h.2 (allTo_spec h2))] at h1; cases h1
/-- A loop that leaves at the first that is not such. -/
theorem loop_all (g : Nat → Nat → Option β) (p : Nat → Bool) (m : Nat) (r0 r1 : Option β) (hs : ∀ F i, i < m → g (F + 1) i = cond (p i) (g F (i + 1)) r0) (he : ∀ F, g (F + 1) m = r1) :
    ∀ F, m < F → g F 0 = cond (allTo p m) r1 r0 := by
  have key : ∀ (F i : Nat), i ≤ m → m - i < F → allTo p i = true → g F i = cond (allTo p m) r1 r0 := by
    intro F
    induction F with
    | zero => intro i _ h; omega
    | succ F ih =>
      intro i hi hF ha
      rcases Nat.lt_or_ge i m with h | h
      · rw [hs F i h]
        cases hp : p i with
        | true => exact ih (i + 1) h (by omega) (by simp only [allTo, ha, hp, Bool.and_self])
        | false =>
          have : allTo p m = false := by
            cases hm : allTo p m with
            | false => rfl
            | true => rw [allTo_spec hm i h] at hp; cases hp
          rw [this]; rfl
      · have : i = m := by omega
        subst this
        rw [he, ha]; rfl
  intro F hF
  exact key F 0 (Nat.zero_le _) (by omega) rfl

theorem xor_zero {a b : Nat} (h : a ^^^ b = 0) : a = b := by
  have : a ^^^ b ^^^ b = b := by rw [h, Nat.zero_xor]
  rwa [Nat.xor_assoc, Nat.xor_self, Nat.xor_zero] at this
theorem bit_eq1 (c : Bool) : (((if c then 1 else 0 : Nat) : Int) == 1) = c := by cases c <;> rfl
theorem spread_sm : ∀ x : Nat, x < 16 → ∀ i : Nat, i < 5 → ∀ b : Nat, b < 2 → bits .or .i64 (bits .or .i64 (shlI .i64 (w64 ((x : Int) - bits .and .i64 (x : Int) (w64 (shlI .i64 1 (i : Int) - 1)))) 1) (shlI .i64 (b : Int) (i : Int))) (bits .and .i64 (x : Int) (w64 (shlI .i64 1 (i : Int) - 1))) = (ins x i b : Int) := by decide +kernel
/-! ### Monotone tables and games -/
def R (w n i b : Nat) : Nat := tabw (fun x => w.testBit (ins x i b)) (2 ^ (n - 1))
theorem R_lt (w n i b : Nat) (hn : n ≤ 5) : R w n i b < 9223372036854775808 :=
  Nat.lt_of_lt_of_le (tabw_lt _ _) (Nat.le_trans (Nat.pow_le_pow_right (by decide) (Nat.le_trans (Nat.pow_le_pow_right (by decide) (by omega : n - 1 ≤ 5)) (by decide : 2 ^ 5 ≤ 32))) (by decide))
def mono (w n i : Nat) : Bool := (R w n i 0 &&& R w n i 1) == R w n i 0
theorem flip_ins : ∀ n, n ≤ 5 → ∀ i, i < n → ∀ x, x < 2 ^ n → (x.testBit i = true ∨ (x = ins (del x i) i 0 ∧ x ^^^ 2 ^ i = ins (del x i) i 1 ∧ x ||| 2 ^ i = x ^^^ 2 ^ i ∧ x ^^^ 2 ^ i < 2 ^ n)) ∧ del x i < 2 ^ (n - 1) := by decide +kernel
theorem ins_bit : ∀ n, n ≤ 5 → ∀ i, i < n → ∀ y, y < 2 ^ (n - 1) → (ins y i 0).testBit i = false ∧ (ins y i 1).testBit i = true ∧ ins y i 0 < 2 ^ n ∧ ins y i 1 < 2 ^ n ∧ ins y i 0 ^^^ 2 ^ i = ins y i 1 := by decide +kernel
theorem mono_at (w n i x : Nat) (hn : n ≤ 5) (hi : i < n) (hx : x < 2 ^ n) (h : mono w n i = true) (hb : x.testBit i = false) : w.testBit x = true → w.testBit (x ^^^ 2 ^ i) = true := by
  intro h1
  obtain ⟨f1, f2⟩ := flip_ins n hn i hi x hx
  rcases f1 with f1 | ⟨g1, g2, _⟩
  · rw [hb] at f1; cases f1
  unfold mono at h
  have e := congrArg (fun z => z.testBit (del x i)) (eq_of_beq h)
  simp only [Nat.testBit_and, R, tabw_bit, decide_eq_true f2, Bool.true_and] at e
  rw [← g1, ← g2, h1] at e
  simpa using e

def game (w n : Nat) : Bool := allTo (mono w n) n && (!w.testBit 0 && w.testBit (2 ^ n - 1))
theorem wu_pow : ∀ n : Nat, n ≤ 5 → wu64 (shlI .u64 1 (n : Int) - 1) = ((2 ^ n - 1 : Nat) : Int) := by decide +kernel
/-! ### Minimal points -/
def minp (w _n x : Nat) (m : Nat) : Bool := w.testBit x && allTo (fun i => !x.testBit i || !w.testBit (x ^^^ 2 ^ i)) m
def picks (p : Nat → Bool) : Nat → List Int
  | 0 => []
  | m + 1 => cond (p m) (picks p m ++ [(m : Int)]) (picks p m)
theorem picks_len (p : Nat → Bool) : ∀ m, (picks p m).length ≤ m
  | 0 => by simp [picks]
  | m + 1 => by have := picks_len p m; simp only [picks]; cases p m <;> simp <;> omega
theorem picks_in (p : Nat → Bool) : ∀ m, m ≤ 1000 → ∀ x ∈ picks p m, in64 x
  | 0, _ => by simp [picks]
  | m + 1, h => by
    have h1 := picks_in p m (by omega)
    intro x hx
    simp only [picks] at hx
    cases hp : p m with
    | false => rw [hp] at hx; exact h1 x hx
    | true =>
      rw [hp, cond_true, List.mem_append, List.mem_singleton] at hx
      rcases hx with hx | rfl
      · exact h1 x hx
      · unfold in64; omega
theorem xor_small {n x i : Nat} (hi : i < n) (hx : x < 2 ^ n) : x ^^^ 2 ^ i < 2 ^ n := Nat.xor_lt_two_pow hx (Nat.pow_lt_pow_right (by decide) hi)
end Go.Proofs.YtignjkbhdaiegaaDoor
