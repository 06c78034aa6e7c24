/- Plain laws of the texts: detectable faults are counted alike. -/
import Derived.Test.YtdkjnadhgdneaaaP3
namespace Go.Proofs.Ytdkjnadhgdneaaa
open Go.Rv
set_option linter.unusedVariables false
variable {β : Type}
theorem impl_detecting_eq (N : Nat) (hN : 64 < N) (n w i b : Nat) (hn : n ≤ 5) (hi : i < n) (hw : w < 2 ^ 2 ^ n) (hb : b < 2) (k : Int → Option β) :
    impl_Table_detecting N (n : Int) (w : Int) (i : Int) (b : Int) k = k ((w ^^^ tabw (fun x => w.testBit (ys x i b)) (2 ^ n) : Nat) : Int) := by
  have hs := size_le hn
  have hw' : w < 4294967296 := Nat.lt_of_lt_of_le hw (Nat.pow_le_pow_right (by decide) (size_le hn) : 2 ^ 2 ^ n ≤ 2 ^ 32)
  unfold impl_Table_detecting
  rw [impl_Table_stuck_eq N hN n w i b hn hw' (by omega) hb]
  rw [bXor w _ (by omega) (Nat.lt_of_lt_of_le (tabw_lt _ _) (Nat.pow_le_pow_right (by decide) (by omega)))]

theorem detects (w n i b : Nat) (hn : n ≤ 5) (hi : i < n) (hb : b < 2) (hw : w < 2 ^ 2 ^ n) : (((w ^^^ tabw (fun x => w.testBit (ys x i b)) (2 ^ n) : Nat) : Int) != 0) = dep w n i := by
  have h := stuck_same w n i b hn hi hb hw
  cases hd : dep w n i with
  | true =>
    rw [hd] at h
    have h1 : ¬ tabw (fun x => w.testBit (ys x i b)) (2 ^ n) = w := by simpa using h
    rw [bne_iff_ne]
    intro e
    have : w ^^^ tabw (fun x => w.testBit (ys x i b)) (2 ^ n) = 0 := by exact_mod_cast e
    refine h1 (Nat.eq_of_testBit_eq fun j => ?_)
    have := congrArg (fun t => t.testBit j) this
    simp only [Nat.testBit_xor, Nat.zero_testBit] at this
    revert this
    cases w.testBit j <;> cases (tabw (fun x => w.testBit (ys x i b)) (2 ^ n)).testBit j <;> simp
  | false =>
    rw [hd] at h
    have h1 : tabw (fun x => w.testBit (ys x i b)) (2 ^ n) = w := by simpa using h
    rw [h1, Nat.xor_self]
    rfl

theorem count_inner (N : Nat) (hN : 64 < N) (n w i : Nat) (hn : n ≤ 5) (hi : i < n) (hw : w < 2 ^ 2 ^ n) (c : Nat) (hc : c < 1000) (d e : Int) (k0 : Int → Int → Int → Int → Int → Option β) :
    impl_CountDetectable_l2 N N (c : Int) (i : Int) d e 0 (n : Int) (w : Int) k0 = k0 ((if dep w n i then c + 2 else c : Nat) : Int) d e n w := by
  obtain ⟨M, rfl⟩ : ∃ M, N = M + 3 := ⟨N - 3, by omega⟩
  have h0 := fun k => impl_detecting_eq (β := β) (M + 3) hN n w i 0 hn hi hw (by omega) k
  have h1 := fun k => impl_detecting_eq (β := β) (M + 3) hN n w i 1 hn hi hw (by omega) k
  have d0 := detects w n i 0 hn hi (by omega) hw
  have d1 := detects w n i 1 hn hi (by omega) hw
  simp only [Int.natCast_zero, Int.natCast_one] at h0 h1
  have w0 : w64 ((0 : Int) + 1) = 1 := by decide
  have w1 : w64 ((1 : Int) + 1) = 2 := by decide
  have l0 : decide ((0 : Int) < 2) = true := by decide
  have l1 : decide ((1 : Int) < 2) = true := by decide
  have l2 : decide ((2 : Int) < 2) = false := by decide
  simp only [impl_CountDetectable_l2, impl_CountDetectable_l2b, l0, l1, l2, w0, w1, cond_true, cond_false, h0, h1, d0, d1]
  cases dep w n i with
  | true =>
    simp only [cond_true, if_true]
    rw [w64_succ c (by omega), w64_succ (c + 1) (by omega)]
  | false => rfl

theorem count_outer (N : Nat) (hN : 64 < N) (n w : Nat) (hn : n ≤ 5) (hw : w < 2 ^ 2 ^ n) (k0 : Int → Option β) :
    ∀ (F i : Nat), n - i < F → i ≤ n → impl_CountDetectable_l0 N F ((2 * (vars w n i).length : Nat) : Int) (n : Int) (i : Int) (n : Int) (w : Int) k0 = k0 ((2 * (vars w n n).length : Nat) : Int) := by
  intro F
  induction F with
  | zero => intro i hF; omega
  | succ F ih =>
    intro i hF hi
    have hl := vars_len w n i
    simp only [impl_CountDetectable_l0, impl_CountDetectable_l0b]
    by_cases hlt : i < n
    · rw [decide_eq_true (by omega : (i : Int) < (n : Int))]
      simp only [cond_true, count_inner N hN n w i hn hlt hw _ (by omega : 2 * (vars w n i).length < 1000)]
      rw [w64_succ i (by omega)]
      have h1 := ih (i + 1) (by omega) (by omega)
      rw [vars_succ] at h1
      cases hd : dep w n i with
      | true =>
        rw [hd] at h1
        simp only [if_true, List.length_append, List.length_cons, List.length_nil] at h1 ⊢
        exact h1
      | false =>
        rw [hd] at h1
        simpa using h1
    · have : i = n := by omega
      subst this
      rw [decide_eq_false (by omega : ¬ (i : Int) < (i : Int))]
      rfl
end Go.Proofs.Ytdkjnadhgdneaaa
