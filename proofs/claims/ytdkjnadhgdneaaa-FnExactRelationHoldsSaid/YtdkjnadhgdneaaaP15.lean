/- Plain laws of the texts: the draws of FnFaults, its last parts. -/
import Derived.Test.YtdkjnadhgdneaaaP14
namespace Go.Proofs.Ytdkjnadhgdneaaa
open Go.Rv
set_option linter.unusedVariables false
variable {β : Type}
theorem remI_len (m : Nat) (c : Nat) (hc : 0 < c) : remI (m : Int) (c : Int) = ((m % c : Nat) : Int) := by
  unfold remI
  exact (Int.ofNat_tmod m c).symm
/-- How many faults can be seen. -/
def countD (a0 a1 : Int) : Int := if isT a0 a1 then ((2 * (vars a1.toNat a0.toNat a0.toNat).length : Nat) : Int) else -1
/-- How many variables matter at an input. -/
def sens (w n x : Nat) : Nat := cnt (fun i => edge w i x) n
theorem impl_sensitivity_eq (N : Nat) (hN : 64 < N) (n w x : Nat) (hn : n ≤ 5) (hw : w < 2 ^ 2 ^ n) (hx : x < 2 ^ n) (k : Int → Option β) :
    impl_Table_sensitivity N (n : Int) (w : Int) (x : Int) k = k (sens w n x : Int) := by
  have hw' := two32 hn hw
  have hs := size_le hn
  unfold impl_Table_sensitivity
  have key : ∀ (F i : Nat), n - i < F → i ≤ n → impl_Table_sensitivity_l0 N F (x : Int) (cnt (fun i => edge w i x) i : Int) (n : Int) (i : Int) (n : Int) (w : Int) k = k (sens w n x : Int) := by
    intro F
    induction F with
    | zero => intro i h; omega
    | succ F ih =>
      intro i hF hi
      have hc := cnt_le (fun i => edge w i x) i
      simp only [impl_Table_sensitivity_l0, impl_Table_sensitivity_l0b, impl_Table_changes, impl_Table_at]
      by_cases hlt : i < n
      · have hp : 2 ^ i < 2 ^ 5 := Nat.pow_lt_pow_right (by decide) (by omega)
        have hxp : x ^^^ 2 ^ i < 2 ^ 5 := Nat.xor_lt_two_pow (by omega) hp
        rw [decide_eq_true (by omega : (i : Int) < (n : Int)), decide_eq_true (by omega : (0 : Int) ≤ (x : Int)), decide_eq_true (by omega : (0 : Int) ≤ (i : Int)), shl_one i (by omega), bXor x (2 ^ i) (by omega) (by omega), decide_eq_true (by omega : (0 : Int) ≤ ((x ^^^ 2 ^ i : Nat) : Int)), bit_at w x (by omega), bit_at w _ (by omega), w64_succ i (by omega), w64_succ (cnt (fun i => edge w i x) i) (by omega)]
        simp only [cond_true, gd_true rfl]
        have e : ((((if w.testBit x then 1 else 0 : Nat) : Int)) != ((if w.testBit (x ^^^ 2 ^ i) then 1 else 0 : Nat) : Int)) = edge w i x := by
          unfold edge
          cases w.testBit x <;> cases w.testBit (x ^^^ 2 ^ i) <;> rfl
        rw [e]
        have h1 := ih (i + 1) (by omega) (by omega)
        have h2 : cnt (fun i => edge w i x) (i + 1) = cnt (fun i => edge w i x) i + (if edge w i x then 1 else 0) := rfl
        rw [h2] at h1
        cases he : edge w i x with
        | true => rw [he] at h1; exact h1
        | false => rw [he] at h1; exact h1
      · rw [decide_eq_false (by omega : ¬ (i : Int) < (n : Int)), cond_false, show i = n by omega]
        rfl
  exact key N 0 (by omega) (Nat.zero_le _)
end Go.Proofs.Ytdkjnadhgdneaaa
