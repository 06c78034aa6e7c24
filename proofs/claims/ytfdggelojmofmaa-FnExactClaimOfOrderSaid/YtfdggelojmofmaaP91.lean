/- Plain laws of the texts. -/
import Derived.Test.YtfdggelojmofmaaT0
import Derived.Test.YtfdggelojmofmaaRvNum
namespace Go.Proofs.Ytfdggelojmofmaa
open Go.Rv

variable {β : Type}
/-- A round of a comparison. -/
def eqStep (l m : List Int) (i : Int) (rec_ : Int → Option β) (k0 : Bool → Option β) (k1 : Option β) : Option β :=
  cond (decide (i < (l.length : Int))) (gd (decide (0 ≤ i)) (gd (decide (i < (l.length : Int))) (gd (decide (0 ≤ i)) (gd (decide (i < (m.length : Int))) (cond (rd 0 l i != rd 0 m i) (k0 false) (rec_ (w64 (i + 1)))))))) k1

theorem eq_loop (l m : List Int) (hl : l.length ≤ 1048576) (hlm : l.length = m.length) (k0 : Bool → Option β) (k1 : Option β) (g : Nat → Int → Option β) (hg : ∀ F i, g (F + 1) i = eqStep l m i (g F) k0 k1) :
    ∀ (F i : Nat), l.length - i < F → i ≤ l.length → g F (i : Int) = cond (l.drop i == m.drop i) k1 (k0 false) := by
  intro F
  induction F with
  | zero => intro i h; omega
  | succ F ih =>
    intro i hF hi
    rw [hg]
    unfold eqStep
    by_cases hlt : i < l.length
    · have hlt' : i < m.length := by omega
      rw [decide_eq_true (by omega : (i : Int) < (l.length : Int)), decide_eq_true (by omega : 0 ≤ (i : Int)), decide_eq_true (by omega : (i : Int) < (m.length : Int)), rd_nat 0 l i hlt, rd_nat 0 m i hlt']
      simp only [cond_true, gd]
      have hd : (l.drop i == m.drop i) = (l[i] == m[i] && l.drop (i + 1) == m.drop (i + 1)) := by
        rw [List.drop_eq_getElem_cons hlt, List.drop_eq_getElem_cons hlt']; rfl
      rw [hd]
      by_cases he : l[i] = m[i]
      · rw [show w64 ((i : Int) + 1) = ((i + 1 : Nat) : Int) by rw [w64_id] <;> omega, ih (i + 1) (by omega) (by omega)]
        rw [show (l[i] != m[i]) = false by simp [he], show (l[i] == m[i]) = true by simp [he]]
        rfl
      · rw [show (l[i] != m[i]) = true by simp [he], show (l[i] == m[i]) = false by simp [he]]
        rfl
    · rw [decide_eq_false (by omega : ¬ (i : Int) < (l.length : Int)), List.drop_eq_nil_of_le (by omega), List.drop_eq_nil_of_le (by omega)]
      rfl

theorem laws_eqIntS_eq (N : Nat) (l m : List Int) (hl : l.length ≤ 1048576) (hN : 1048576 < N) (k : Bool → Option β) : laws_eqIntS N l m k = k (l == m) := by
  unfold laws_eqIntS
  by_cases h : l.length = m.length
  · rw [show ((l.length : Int) != (m.length : Int)) = false by simp [h]]
    simp only [cond_false]
    have := eq_loop l m hl h k (k true) (fun F i => laws_eqIntS_l0 N F l m i k (k true)) (fun F i => rfl) N 0 (by omega) (by omega)
    simp only [List.drop_zero] at this
    refine this.trans ?_
    cases l == m <;> rfl
  · rw [show ((l.length : Int) != (m.length : Int)) = true by simp; omega]
    simp only [cond_true]
    rw [show (l == m) = false by simp; intro e; exact h (by rw [e])]
end Go.Proofs.Ytfdggelojmofmaa
namespace Go.Proofs.Ytfdggelojmofmaa
open Go.Rv
variable {β : Type}
theorem laws_eqClaim_same (N : Nat) (a0 a1 a2 a3 a4 : Int) (s : ByteArray) (l : List Int) (hl : l.length ≤ 1048576) (hN : 1048576 < N) (k : Bool → Option β) : laws_eqClaim N a0 a1 a2 a3 a4 s l a0 a1 a2 a3 a4 s l k = k true := by
  unfold laws_eqClaim laws_eqTable
  simp [laws_eqIntS_eq N l l hl hN]
end Go.Proofs.Ytfdggelojmofmaa
namespace Go.Proofs.Ytfdggelojmofmaa
open Go.Rv
set_option linter.unusedVariables false
variable {β : Type}
/-- A table's word, input by input. -/
def tabw (g : Nat → Bool) : Nat → Nat
  | 0 => 0
  | i + 1 => tabw g i ||| (if g i then 2 ^ i else 0)
theorem tabw_lt (g : Nat → Bool) : ∀ i, tabw g i < 2 ^ i
  | 0 => by simp [tabw]
  | i + 1 => by
    have := tabw_lt g i
    unfold tabw
    have h2 : 2 ^ (i + 1) = 2 ^ i + 2 ^ i := by rw [Nat.pow_succ]; omega
    refine Nat.or_lt_two_pow (by omega) ?_
    split
    · have := Nat.two_pow_pos i; omega
    · exact Nat.two_pow_pos _
theorem tabw_congr {g h : Nat → Bool} : ∀ {n : Nat}, (∀ i, i < n → g i = h i) → tabw g n = tabw h n
  | 0, _ => rfl
  | n + 1, e => by
    unfold tabw
    rw [tabw_congr (n := n) fun i hi => e i (by omega), e n (by omega)]

theorem pow_le_64 {n : Nat} (h : n ≤ 62) : 2 ^ n < 9223372036854775808 := Nat.lt_of_le_of_lt (Nat.pow_le_pow_right (by decide) h) (by decide)
theorem size_le {n : Nat} (h : n ≤ 5) : 2 ^ n ≤ 32 := Nat.le_trans (Nat.pow_le_pow_right (by decide) h) (by decide)

theorem shl_one (n : Nat) (h : n ≤ 62) : shlI .i64 1 (n : Int) = ((2 ^ n : Nat) : Int) := by
  have := shl_nat 1 n (by omega) (by rw [Nat.one_mul]; exact pow_le_64 h)
  rw [Nat.one_mul] at this
  exact this

theorem makeTable_loop (N : Nat) (h : Int → (Bool → Option β) → Option β) (g : Nat → Bool) (m : Nat) (hm : m ≤ 32) (hh : ∀ (x : Nat) k, x < m → h (x : Int) k = k (g x)) (k0 : Int → Int → Int → Int → Option β) (a b n : Int) :
    ∀ (F i : Nat), m - i < F → i ≤ m → impl_makeTable_l0 N h F (m : Int) (i : Int) a b n (tabw g i : Int) k0 = k0 a b n (tabw g m : Int) := by
  intro F
  induction F with
  | zero => intro i hF; omega
  | succ F ih =>
    intro i hF hi
    simp only [impl_makeTable_l0, impl_makeTable_l0b]
    by_cases hlt : i < m
    · rw [decide_eq_true (by omega : (i : Int) < (m : Int))]
      simp only [cond_true, hh i _ hlt]
      have h1 := ih (i + 1) (by omega) (by omega)
      rw [w64_succ i (by omega)]
      have hw : tabw g i < 2 ^ 63 := Nat.lt_of_lt_of_le (tabw_lt g i) (Nat.pow_le_pow_right (by decide) (by omega))
      cases hg : g i with
      | true =>
        have e : tabw g (i + 1) = tabw g i ||| 2 ^ i := by simp [tabw, hg]
        rw [e] at h1
        simp only [cond_true, gd_true (decide_eq_true (by omega : 0 ≤ (i : Int)))]
        rw [shl_one i (by omega), bOr _ _ hw (Nat.pow_lt_pow_right (by decide) (by omega))]
        exact h1
      | false =>
        have e : tabw g (i + 1) = tabw g i := by simp [tabw, hg]
        rw [e] at h1
        exact h1
    · have : i = m := by omega
      subst this
      rw [decide_eq_false (by omega : ¬ (i : Int) < (i : Int))]
      rfl

theorem makeTable_eq (N : Nat) (hN : 64 < N) (n : Nat) (hn : n ≤ 5) (h : Int → (Bool → Option β) → Option β) (g : Nat → Bool) (hh : ∀ (x : Nat) k, x < 2 ^ n → h (x : Int) k = k (g x)) (k : Int → Int → Option β) :
    impl_makeTable N (n : Int) h k = k n (tabw g (2 ^ n) : Int) := by
  unfold impl_makeTable
  rw [gd_true (decide_eq_true (by omega)), shl_one n (by omega)]
  have := size_le hn
  exact makeTable_loop N h g (2 ^ n) this hh (fun _ _ e2 e3 => k e2 e3) 0 0 n N 0 (by omega) (Nat.zero_le _)

def ys (x i b : Nat) : Nat := x - (x &&& 2 ^ i) + b * 2 ^ i
theorem ys_eq : ∀ x, x < 32 → ∀ i, i < 5 → ∀ b, b < 2 → ys x i b = (x ^^^ (x &&& 2 ^ i)) ||| (b * 2 ^ i) ∧ ys x i b < 64 ∧ (x &&& 2 ^ i) ≤ x ∧ (x ^^^ (x &&& 2 ^ i)) < 32 := by decide +kernel

/-- A bit of a word, as the program takes it. -/
theorem bit_at (w y : Nat) (hw : w < 9223372036854775808) : bits .and .i64 (shrI .i64 (w : Int) (y : Int)) 1 = ((if w.testBit y then 1 else 0 : Nat) : Int) := by
  rw [shr_nat w y hw]
  have h1 : w / 2 ^ y < 2 ^ 63 := Nat.lt_of_le_of_lt (Nat.div_le_self _ _) hw
  have := bAnd (w / 2 ^ y) 1 h1 (by decide)
  rw [show ((1 : Nat) : Int) = 1 from rfl] at this
  rw [this, Nat.and_one_is_mod]
  congr 1
  rw [Nat.testBit, Nat.shiftRight_eq_div_pow, Nat.and_comm, Nat.and_one_is_mod]
  have := Nat.mod_two_eq_zero_or_one (w / 2 ^ y)
  rcases this with h | h <;> simp [h]

theorem impl_stuck_bit (N : Nat) (n w i b : Nat) (hw : w < 4294967296) (hi : i < 5) (hb : b < 2) (x : Nat) (hx : x < 32) (k : Bool → Option β) :
    impl_Table_stuck_1 N (x : Int) (n : Int) (w : Int) (i : Int) (b : Int) k = k (w.testBit (ys x i b)) := by
  obtain ⟨h1, h2, _, h4⟩ := ys_eq x hx i hi b hb
  have hp : 2 ^ i < 2 ^ 63 := Nat.pow_lt_pow_right (by decide) (by omega)
  have hp5 : 2 ^ i ≤ 32 := size_le (by omega)
  have hb2 : b * 2 ^ i ≤ 1 * 32 := Nat.mul_le_mul (by omega) hp5
  unfold impl_Table_stuck_1 impl_Table_at
  simp only [gd_true (decide_eq_true (by omega : 0 ≤ (i : Int)))]
  rw [shl_one i (by omega), shl_nat b i (by omega) (by omega), bAndNot x (2 ^ i) (by omega) hp, bOr _ _ (by omega) (by omega), ← h1]
  rw [gd_true (decide_eq_true (by omega)), bit_at w _ (by omega)]
  cases w.testBit (ys x i b) <;> rfl

theorem impl_Table_stuck_eq (N : Nat) (hN : 64 < N) (n w i b : Nat) (hn : n ≤ 5) (hw : w < 4294967296) (hi : i < 5) (hb : b < 2) (k : Int → Int → Option β) :
    impl_Table_stuck N (n : Int) (w : Int) (i : Int) (b : Int) k = k n (tabw (fun x => w.testBit (ys x i b)) (2 ^ n) : Int) := by
  unfold impl_Table_stuck
  rw [makeTable_eq N hN n hn _ (fun x => w.testBit (ys x i b)) fun x k hx => impl_stuck_bit N n w i b hw hi hb x (Nat.lt_of_lt_of_le hx (size_le hn)) k]

/-- What a table is. -/
def isT (a0 a1 : Int) : Bool := decide (0 ≤ a0) && decide (a0 ≤ 5) && decide (0 ≤ a1) && decide (a1 < 2 ^ 2 ^ a0.toNat)

theorem isT_nat {a0 a1 : Int} (h : isT a0 a1 = true) : ∃ n w : Nat, a0 = n ∧ a1 = w ∧ n ≤ 5 ∧ w < 2 ^ 2 ^ n ∧ w < 4294967296 := by
  simp only [isT, Bool.and_eq_true, decide_eq_true_eq] at h
  obtain ⟨⟨⟨h1, h2⟩, h3⟩, h4⟩ := h
  obtain ⟨n, rfl⟩ := Int.eq_ofNat_of_zero_le h1
  obtain ⟨w, rfl⟩ := Int.eq_ofNat_of_zero_le h3
  simp only [Int.toNat_natCast] at h4
  have h5 : w < 2 ^ 2 ^ n := by exact_mod_cast h4
  have h6 : 2 ^ 2 ^ n ≤ 2 ^ 32 := Nat.pow_le_pow_right (by decide) (size_le (by omega))
  exact ⟨n, w, rfl, rfl, by omega, h5, by omega⟩

theorem shl_u64 : ∀ n : Nat, n ≤ 5 → shlI .u64 1 (n : Int) = ((2 ^ n : Nat) : Int) := by decide +kernel

theorem spec_IsTable_eq (N : Nat) (a0 a1 : Int) (k : Bool → Option β) : spec_IsTable N a0 a1 k = k (isT a0 a1) := by
  unfold spec_IsTable spec_l1In
  by_cases h0 : 0 ≤ a0
  · rw [decide_eq_true (by omega : a0 ≥ 0)]
    simp only [cond_true]
    by_cases h5 : a0 ≤ 5
    · rw [decide_eq_true h5]
      obtain ⟨n, rfl⟩ := Int.eq_ofNat_of_zero_le h0
      have hn : n ≤ 5 := by omega
      have hs := size_le hn
      have hp := pow_le_64 (n := 2 ^ n) (by omega)
      have hpos := Nat.two_pow_pos (2 ^ n)
      simp only [cond_true]
      rw [gd_true rfl, shl_u64 n hn, gd_true (decide_eq_true (Int.natCast_nonneg _)), shl_one (2 ^ n) (by omega), w64_id (by omega) (by omega)]
      have e : isT (n : Int) a1 = (decide (0 ≤ a1) && decide (a1 < ((2 ^ 2 ^ n : Nat) : Int))) := by
        simp only [isT, Int.toNat_natCast, decide_eq_true (by omega : 0 ≤ (n : Int)), decide_eq_true (by omega : (n : Int) ≤ 5), Bool.true_and]
        push_cast
        rfl
      rw [e]
      by_cases h1 : 0 ≤ a1
      · rw [decide_eq_true (by omega : a1 ≥ 0)]
        simp only [cond_true, Bool.true_and]
        congr 1
        exact decide_eq_decide.2 (by omega)
      · rw [decide_eq_false (by omega : ¬ a1 ≥ 0)]; rfl
    · rw [decide_eq_false h5]
      simp [isT, h5]
  · rw [decide_eq_false (by omega : ¬ a0 ≥ 0)]
    simp [isT, h0]

theorem impl_IsTable_eq (N : Nat) (a0 a1 : Int) (h : a1 < 9223372036854775808) (k : Bool → Option β) : impl_IsTable N a0 a1 k = k (isT a0 a1) := by
  unfold impl_IsTable impl_isBits impl_Table_size
  by_cases h0 : 0 ≤ a0
  · rw [decide_eq_true (by omega : a0 ≥ 0)]
    simp only [cond_true]
    by_cases h5 : a0 ≤ 5
    · rw [decide_eq_true h5]
      obtain ⟨n, rfl⟩ := Int.eq_ofNat_of_zero_le h0
      have hn : n ≤ 5 := by omega
      have hs := size_le hn
      have hpos := Nat.two_pow_pos (2 ^ n)
      simp only [cond_true]
      rw [gd_true rfl]
      have e : isT (n : Int) a1 = (decide (0 ≤ a1) && decide (a1 < ((2 ^ 2 ^ n : Nat) : Int))) := by
        simp only [isT, Int.toNat_natCast, decide_eq_true (by omega : 0 ≤ (n : Int)), decide_eq_true (by omega : (n : Int) ≤ 5), Bool.true_and]
        push_cast
        rfl
      rw [e]
      by_cases h1 : 0 ≤ a1
      · obtain ⟨w, rfl⟩ := Int.eq_ofNat_of_zero_le h1
        rw [decide_eq_true (by omega : (w : Int) ≥ 0), shl_one n (by omega)]
        simp only [cond_true, Bool.true_and]
        rw [gd_true (decide_eq_true (Int.natCast_nonneg _)), shr_nat w (2 ^ n) (by omega)]
        congr 1
        have : w / 2 ^ 2 ^ n = 0 ↔ w < 2 ^ 2 ^ n := by
          rw [Nat.div_eq_zero_iff]
          omega
        by_cases hw : w < 2 ^ 2 ^ n
        · rw [this.2 hw, decide_eq_true (by omega)]; rfl
        · rw [decide_eq_false (by omega)]
          have : ¬ w / 2 ^ 2 ^ n = 0 := fun h => hw (this.1 h)
          simp only [beq_eq_false_iff_ne, ne_eq]
          omega
      · rw [decide_eq_false (by omega : ¬ a1 ≥ 0)]; rfl
    · rw [decide_eq_false h5]
      simp [isT, h5]
  · rw [decide_eq_false (by omega : ¬ a0 ≥ 0)]
    simp [isT, h0]
end Go.Proofs.Ytfdggelojmofmaa
namespace Go.Proofs.Ytfdggelojmofmaa
open Go.Rv
set_option linter.unusedVariables false
variable {β : Type}
theorem tabw_bit (g : Nat → Bool) : ∀ (n x : Nat), (tabw g n).testBit x = (decide (x < n) && g x)
  | 0, x => by simp [tabw]
  | n + 1, x => by
    unfold tabw
    rw [Nat.testBit_or, tabw_bit g n x]
    by_cases hx : x = n
    · subst hx
      cases hg : g x <;> simp [Nat.testBit_two_pow_self]
    · have h1 : (if g n then 2 ^ n else 0 : Nat).testBit x = false := by
        split
        · exact Nat.testBit_two_pow_of_ne (Ne.symm hx)
        · exact Nat.zero_testBit _
      rw [h1, Bool.or_false]
      congr 1
      exact decide_eq_decide.2 (by omega)

theorem tabw_eq_iff (g h : Nat → Bool) (n : Nat) : tabw g n = tabw h n ↔ ∀ x, x < n → g x = h x := by
  refine ⟨fun e x hx => ?_, fun e => tabw_congr e⟩
  have := congrArg (fun t => t.testBit x) e
  simpa [tabw_bit, hx] using this

theorem tabw_self (w n : Nat) (h : w < 2 ^ n) : tabw w.testBit n = w := by
  apply Nat.eq_of_testBit_eq
  intro x
  rw [tabw_bit]
  by_cases hx : x < n
  · simp [hx]
  · have : w.testBit x = false := Nat.testBit_lt_two_pow (Nat.lt_of_lt_of_le h (Nat.pow_le_pow_right (by decide) (by omega)))
    simp [hx, this]

/-- A bit put in between. -/
def ins (x i b : Nat) : Nat := (x / 2 ^ i) * 2 ^ (i + 1) ||| b * 2 ^ i ||| (x &&& (2 ^ i - 1))
def del (x i : Nat) : Nat := (x / 2 ^ (i + 1)) * 2 ^ i ||| (x &&& (2 ^ i - 1))
theorem del_ins : ∀ n, n ≤ 5 → ∀ i, i < n → ∀ x, x < 2 ^ n → del x i < 2 ^ (n - 1) ∧ ins (del x i) i (x / 2 ^ i % 2) = x ∧ ∀ b, b < 2 → ys x i b = ins (del x i) i b := by decide +kernel
theorem ins_lt1 : ∀ n, n ≤ 5 → ∀ i, i < n → ∀ x, x < 2 ^ (n - 1) → ins x i 0 < 2 ^ n ∧ ins x i 1 < 2 ^ n := by decide +kernel
theorem ins_ys : ∀ n, n ≤ 5 → ∀ i, i < n → ∀ x, x < 2 ^ (n - 1) → ys (ins x i 0) i 0 = ins x i 0 ∧ ys (ins x i 0) i 1 = ins x i 1 ∧ ys (ins x i 1) i 0 = ins x i 0 ∧ ys (ins x i 1) i 1 = ins x i 1 := by decide +kernel
theorem ins_lt (n : Nat) (hn : n ≤ 5) (i : Nat) (hi : i < n) (x : Nat) (hx : x < 2 ^ (n - 1)) (b : Nat) (hb : b < 2) : ins x i b < 2 ^ n ∧ ∀ c, c < 2 → ys (ins x i c) i b = ins x i b := by
  obtain ⟨h1, h2⟩ := ins_lt1 n hn i hi x hx
  obtain ⟨h3, h4, h5, h6⟩ := ins_ys n hn i hi x hx
  have hb' : b = 0 ∨ b = 1 := by omega
  rcases hb' with rfl | rfl
  · exact ⟨h1, fun c hc => by have hc' : c = 0 ∨ c = 1 := by omega
                              rcases hc' with rfl | rfl <;> assumption⟩
  · exact ⟨h2, fun c hc => by have hc' : c = 0 ∨ c = 1 := by omega
                              rcases hc' with rfl | rfl <;> assumption⟩

/-- Whether a word depends on an input. -/
def dep (w n i : Nat) : Bool := tabw (fun x => w.testBit (ins x i 0)) (2 ^ (n - 1)) != tabw (fun x => w.testBit (ins x i 1)) (2 ^ (n - 1))

theorem stuck_same (w n i b : Nat) (hn : n ≤ 5) (hi : i < n) (hb : b < 2) (hw : w < 2 ^ 2 ^ n) : (tabw (fun x => w.testBit (ys x i b)) (2 ^ n) == w) = !dep w n i := by
  have key : tabw (fun x => w.testBit (ys x i b)) (2 ^ n) = w ↔ tabw (fun x => w.testBit (ins x i 0)) (2 ^ (n - 1)) = tabw (fun x => w.testBit (ins x i 1)) (2 ^ (n - 1)) := by
    conv => lhs; rhs; rw [← tabw_self w (2 ^ n) hw]
    rw [tabw_eq_iff, tabw_eq_iff]
    constructor
    · intro h x hx
      obtain ⟨a1, a2⟩ := ins_lt n hn i hi x hx 0 (by omega)
      obtain ⟨b1, b2⟩ := ins_lt n hn i hi x hx 1 (by omega)
      have e0 := h _ a1
      have e1 := h _ b1
      have c0 := (ins_lt n hn i hi x hx b hb).2 0 (by omega)
      have c1 := (ins_lt n hn i hi x hx b hb).2 1 (by omega)
      rw [c0] at e0
      rw [c1] at e1
      rw [← e0, ← e1]
    · intro h x hx
      obtain ⟨h1, h2, h3⟩ := del_ins n hn i hi x hx
      have e := h _ h1
      rw [h3 b hb]
      conv => rhs; rw [← h2]
      have hc : x / 2 ^ i % 2 = 0 ∨ x / 2 ^ i % 2 = 1 := by omega
      have hb' : b = 0 ∨ b = 1 := by omega
      rcases hc with hc | hc <;> rcases hb' with rfl | rfl <;> rw [hc] <;> simp only [e]
  unfold dep
  by_cases h : tabw (fun x => w.testBit (ys x i b)) (2 ^ n) = w
  · rw [beq_iff_eq.2 h]
    simp [key.1 h]
  · rw [beq_eq_false_iff_ne.2 h]
    rw [bne_iff_ne.2 fun e => h (key.2 e)]
    rfl

theorem ins_small : ∀ x, x < 32 → ∀ i, i < 5 → x / 2 ^ i * 2 ^ (i + 1) < 64 ∧ (x &&& (2 ^ i - 1)) < 32 ∧ ins x i 0 < 128 ∧ ins x i 1 < 128 := by decide +kernel

/-- The inputs that a word depends on. -/
def vars (w n m : Nat) : List Int := ((List.range m).filter fun i => dep w n i).map Int.ofNat
theorem vars_len (w n m : Nat) : (vars w n m).length ≤ m := by
  unfold vars
  rw [List.length_map]
  exact Nat.le_trans (List.length_filter_le _ _) (by simp)
theorem vars_succ (w n m : Nat) : vars w n (m + 1) = if dep w n m then vars w n m ++ [(m : Int)] else vars w n m := by
  unfold vars
  rw [List.range_succ, List.filter_append, List.map_append]
  cases h : dep w n m <;> simp [h]
end Go.Proofs.Ytfdggelojmofmaa
namespace Go.Proofs.Ytfdggelojmofmaa
open Go.Rv
set_option linter.unusedVariables false
variable {β : Type}
theorem detects (w n i b : Nat) (hn : n ≤ 5) (hi : i < n) (hb : b < 2) (hw : w < 2 ^ 2 ^ n) : (((w ^^^ tabw (fun x => w.testBit (ys x i b)) (2 ^ n) : Nat) : Int) != 0) = dep w n i := by
  have h := stuck_same w n i b hn hi hb hw
  cases hd : dep w n i with
  | true =>
    rw [hd] at h
    have h1 : ¬ tabw (fun x => w.testBit (ys x i b)) (2 ^ n) = w := by simpa using h
    rw [bne_iff_ne]
    intro e
    have : w ^^^ tabw (fun x => w.testBit (ys x i b)) (2 ^ n) = 0 := by exact_mod_cast e
    refine h1 (Nat.eq_of_testBit_eq fun j => ?_)
    have := congrArg (fun t => t.testBit j) this
    simp only [Nat.testBit_xor, Nat.zero_testBit] at this
    revert this
    cases w.testBit j <;> cases (tabw (fun x => w.testBit (ys x i b)) (2 ^ n)).testBit j <;> simp
  | false =>
    rw [hd] at h
    have h1 : tabw (fun x => w.testBit (ys x i b)) (2 ^ n) = w := by simpa using h
    rw [h1, Nat.xor_self]
    rfl
end Go.Proofs.Ytfdggelojmofmaa
namespace Go.Proofs.Ytfdggelojmofmaa
open Go.Rv
set_option linter.unusedVariables false
variable {β : Type}
/-- Numbers one after the other. -/
def marks (a n : Nat) : List Int := (List.range n).map fun i => ((a + i : Nat) : Int)
theorem marks_len (a n : Nat) : (marks a n).length = n := by simp [marks]
theorem marks_get (a n i : Nat) (h : i < n) : (marks a n)[i]? = some ((a + i : Nat) : Int) := by simp [marks, h]

theorem laws_markIntS_eq (N : Nat) (l : List Int) (a : Nat) (hl : l.length ≤ 1048576) (ha : a ≤ 4194304) (hN : 1048576 < N) (k : Int → List Int → Option β) :
    laws_markIntS N l (a : Int) k = k ((a + l.length : Nat) : Int) (marks a l.length) := by
  have key : ∀ (F i : Nat) (m : List Int), l.length - i < F → i ≤ l.length → m.length = l.length → (∀ j, j < i → m[j]? = (marks a l.length)[j]?) →
      laws_markIntS_l0 N F ((a + i : Nat) : Int) (i : Int) m k = k ((a + l.length : Nat) : Int) (marks a l.length) := by
    intro F
    induction F with
    | zero => intro i m h; omega
    | succ F ih =>
      intro i m hF hi hm heq
      simp only [laws_markIntS_l0, laws_markIntS_l0b]
      by_cases hlt : i < l.length
      · rw [decide_eq_true (by omega : (i : Int) < (m.length : Int)), decide_eq_true (by omega : 0 ≤ (i : Int))]
        simp only [cond_true, gd]
        rw [w64_succ i (by omega), w64_succ (a + i) (by omega)]
        refine ih (i + 1) _ (by omega) (by omega) (by simp [wr, hm]) fun j hj => ?_
        simp only [wr, Int.toNat_natCast, List.getElem?_set]
        by_cases hij : i = j
        · subst hij
          have : i < m.length := by omega
          simp [this, marks_get a l.length i hlt]
        · simp only [hij, if_false]
          exact heq j (by omega)
      · rw [decide_eq_false (by omega : ¬ (i : Int) < (m.length : Int))]
        have : i = l.length := by omega
        subst this
        simp only [cond_false]
        congr 1
        apply List.ext_getElem?
        intro j
        rcases Nat.lt_or_ge j l.length with h | h
        · exact heq j h
        · rw [List.getElem?_eq_none (by omega), List.getElem?_eq_none (by rw [marks_len]; omega)]
  exact key N 0 l (by omega) (Nat.zero_le _) rfl (fun j hj => by omega)

theorem laws_heldIntS_eq (N a n : Nat) (hn : n ≤ 1048576) (ha : a ≤ 1048576) (hN : 1048576 < N) (k : Int → Option β) :
    laws_heldIntS N (marks a n) (a : Int) k = k ((a + n : Nat) : Int) := by
  have key : ∀ (F i : Nat), n - i < F → i ≤ n → laws_heldIntS_l0 N F (marks a n) ((a + i : Nat) : Int) (i : Int) k k = k ((a + n : Nat) : Int) := by
    intro F
    induction F with
    | zero => intro i h; omega
    | succ F ih =>
      intro i hF hi
      simp only [laws_heldIntS_l0, laws_heldIntS_l0b, marks_len]
      by_cases hlt : i < n
      · rw [decide_eq_true (by omega : (i : Int) < (n : Int)), decide_eq_true (by omega : 0 ≤ (i : Int))]
        have hlt' : i < (marks a n).length := by rw [marks_len]; exact hlt
        have hg : (marks a n)[i] = ((a + i : Nat) : Int) := by
          have := marks_get a n i hlt
          rw [List.getElem?_eq_getElem hlt'] at this
          simpa using this
        simp only [cond_true, gd]
        rw [rd_nat 0 _ i hlt', hg, w64_succ i (by omega), w64_succ (a + i) (by omega)]
        simp only [bne_self_eq_false, cond_false]
        exact ih (i + 1) (by omega) (by omega)
      · rw [decide_eq_false (by omega : ¬ (i : Int) < (n : Int))]
        have : i = n := by omega
        subst this
        rfl
  exact key N 0 (by omega) (Nat.zero_le _)
end Go.Proofs.Ytfdggelojmofmaa
namespace Go.Proofs.Ytfdggelojmofmaa
open Go.Rv
set_option linter.unusedVariables false
variable {β : Type}
/-- Whether an input tells a stuck one apart. -/
def sees (w n x i b : Nat) : Bool := (w ^^^ tabw (fun x => w.testBit (ys x i b)) (2 ^ n)).testBit x
def addIf (c : Bool) (l : List Int) (v : Int) : List Int := if c then l ++ [v] else l
/-- The faults seen at an input. -/
def seen (w n x : Nat) : Nat → List Int
  | 0 => []
  | i + 1 => addIf (sees w n x i 1) (addIf (sees w n x i 0) (seen w n x i) ((2 * i : Nat) : Int)) ((2 * i + 1 : Nat) : Int)
theorem addIf_len (c : Bool) (l : List Int) (v : Int) : (addIf c l v).length ≤ l.length + 1 := by unfold addIf; split <;> simp
theorem seen_len (w n x : Nat) : ∀ i, (seen w n x i).length ≤ 2 * i
  | 0 => by simp [seen]
  | i + 1 => by
    have h1 := seen_len w n x i
    have h2 := addIf_len (sees w n x i 0) (seen w n x i) ((2 * i : Nat) : Int)
    have h3 := addIf_len (sees w n x i 1) (addIf (sees w n x i 0) (seen w n x i) ((2 * i : Nat) : Int)) ((2 * i + 1 : Nat) : Int)
    show (addIf _ (addIf _ _ _) _).length ≤ _
    omega

theorem bit_one (c : Bool) : (((if c then 1 else 0 : Nat) : Int) == 1) = c := by cases c <;> rfl

theorem spec_bit (w t x : Nat) (hw : w < 4294967296) (ht : t < 4294967296) : (bits .and .i64 (bits .xor .i64 (shrI .i64 (w : Int) (x : Int)) (shrI .i64 (t : Int) (x : Int))) 1 == 1) = (w ^^^ t).testBit x := by
  have h1 : w / 2 ^ x < 2 ^ 63 := Nat.lt_of_le_of_lt (Nat.div_le_self _ _) (by omega)
  have h2 : t / 2 ^ x < 2 ^ 63 := Nat.lt_of_le_of_lt (Nat.div_le_self _ _) (by omega)
  rw [shr_nat w x (by omega), shr_nat t x (by omega), bXor _ _ h1 h2]
  have h3 : w / 2 ^ x ^^^ t / 2 ^ x < 2 ^ 63 := Nat.xor_lt_two_pow h1 h2
  have h4 := bit_at (w / 2 ^ x ^^^ t / 2 ^ x) 0 (by omega)
  have h5 : shrI .i64 ((w / 2 ^ x ^^^ t / 2 ^ x : Nat) : Int) ((0 : Nat) : Int) = ((w / 2 ^ x ^^^ t / 2 ^ x : Nat) : Int) := by
    rw [shr_nat _ 0 (by omega)]; simp
  rw [h5] at h4
  rw [h4, bit_one]
  rw [Nat.testBit_xor, Nat.testBit_xor]
  have e : ∀ m : Nat, (m / 2 ^ x).testBit 0 = m.testBit x := fun m => by
    rw [Nat.testBit_zero, Nat.testBit, Nat.shiftRight_eq_div_pow, Nat.and_comm, Nat.and_one_is_mod]
    have := Nat.mod_two_eq_zero_or_one (m / 2 ^ x)
    rcases this with h | h <;> simp [h]
  rw [e, e]

theorem isT_of {n w : Nat} (hn : n ≤ 5) (hw : w < 2 ^ 2 ^ n) : isT (n : Int) (w : Int) = true := by
  simp only [isT, Bool.and_eq_true, decide_eq_true_eq, Int.toNat_natCast]
  refine ⟨⟨⟨by omega, by omega⟩, by omega⟩, ?_⟩
  rw [show ((2 : Int) ^ 2 ^ n) = ((2 ^ 2 ^ n : Nat) : Int) by simp]
  omega

/-- Whether a number is an input. -/
def isIn (a0 a1 a2 : Int) : Bool := isT a0 a1 && decide (0 ≤ a2) && decide (a2 < 2 ^ a0.toNat)

/-- The faults seen, of whatever is handed. -/
def detectedBy (a0 a1 a2 : Int) : List Int := if isIn a0 a1 a2 then seen a1.toNat a0.toNat a2.toNat a0.toNat else []

theorem isIn_nat {a0 a1 a2 : Int} (h : isIn a0 a1 a2 = true) : ∃ n w x : Nat, a0 = n ∧ a1 = w ∧ a2 = x ∧ n ≤ 5 ∧ w < 2 ^ 2 ^ n ∧ w < 4294967296 ∧ x < 2 ^ n := by
  unfold isIn at h
  simp only [Bool.and_eq_true, decide_eq_true_eq] at h
  obtain ⟨⟨ht, h0⟩, h1⟩ := h
  obtain ⟨n, w, rfl, rfl, hn, hw, hw'⟩ := isT_nat ht
  refine ⟨n, w, a2.toNat, rfl, rfl, by omega, hn, hw, hw', ?_⟩
  rw [Int.toNat_natCast, show ((2 : Int) ^ n) = ((2 ^ n : Nat) : Int) by simp] at h1
  omega

theorem detectedBy_len (a0 a1 a2 : Int) : (detectedBy a0 a1 a2).length ≤ 10 := by
  unfold detectedBy
  split
  · rename_i h
    obtain ⟨n, w, x, rfl, rfl, rfl, hn, -, -, -⟩ := isIn_nat h
    have := seen_len (w : Int).toNat (n : Int).toNat (x : Int).toNat (n : Int).toNat
    simp only [Int.toNat_natCast] at this ⊢
    omega
  · simp
end Go.Proofs.Ytfdggelojmofmaa
namespace Go.Proofs.Ytfdggelojmofmaa
open Go.Rv
set_option linter.unusedVariables false
variable {β : Type}
theorem spec_l1In_eq (N : Nat) (a b c : Int) (k : Bool → Option β) : spec_l1In N a b c k = k (decide (b ≤ a) && decide (a ≤ c)) := by
  unfold spec_l1In
  by_cases h : b ≤ a
  · rw [decide_eq_true (by omega : a ≥ b)]; rfl
  · rw [decide_eq_false (by omega : ¬ a ≥ b)]; rfl
/-- Whether there is such a fault. -/
def isF (a0 a1 a2 a3 : Int) : Bool := isT a0 a1 && (decide (0 ≤ a2) && decide (a2 < a0)) && (decide (0 ≤ a3) && decide (a3 ≤ 1))
theorem isF_nat {a0 a1 a2 a3 : Int} (h : isF a0 a1 a2 a3 = true) : ∃ n w i b : Nat, a0 = n ∧ a1 = w ∧ a2 = i ∧ a3 = b ∧ n ≤ 5 ∧ w < 2 ^ 2 ^ n ∧ w < 4294967296 ∧ i < n ∧ b < 2 := by
  simp only [isF, Bool.and_eq_true, decide_eq_true_eq] at h
  obtain ⟨⟨ht, h0⟩, h1⟩ := h
  obtain ⟨n, w, rfl, rfl, hn, hw, hw'⟩ := isT_nat ht
  exact ⟨n, w, a2.toNat, a3.toNat, rfl, rfl, by omega, by omega, hn, hw, hw', by omega, by omega⟩
/-- The word of a table whose variable is stuck. -/
def stuckw (w n i b : Nat) : Nat := tabw (fun x => w.testBit (ys x i b)) (2 ^ n)
/-- The numbers of a set. -/
def elems (d : Nat) : Nat → List Int
  | 0 => []
  | m + 1 => addIf (d.testBit m) (elems d m) (m : Int)
theorem elems_len (d : Nat) : ∀ m, (elems d m).length ≤ m
  | 0 => by simp [elems]
  | m + 1 => by
    have h1 := elems_len d m
    have h2 := addIf_len (d.testBit m) (elems d m) (m : Int)
    show (addIf _ _ _).length ≤ _
    omega
theorem elems_more (d m : Nat) (h : d < 2 ^ m) : ∀ j, elems d (m + j) = elems d m
  | 0 => rfl
  | j + 1 => by
    show addIf (d.testBit (m + j)) (elems d (m + j)) _ = _
    rw [elems_more d m h j, Nat.testBit_lt_two_pow (Nat.lt_of_lt_of_le h (Nat.pow_le_pow_right (by decide) (by omega)))]
    rfl

theorem addIf_step (c : Bool) (l : List Int) (v : Int) (hl : l.length ≤ 1000) (r : List Int → Option β) :
    cond c (gd (decide ((l.length + (([] : List Int) ++ [v]).length) * 8 ≤ 140737488355328)) (r (l ++ (([] : List Int) ++ [v])))) (r l) = r (addIf c l v) := by
  cases c with
  | true => rw [gd_true (decide_eq_true (by simp; omega))]; rfl
  | false => rfl

def detInputs (a0 a1 a2 a3 : Int) : List Int := if isF a0 a1 a2 a3 then elems (a1.toNat ^^^ stuckw a1.toNat a0.toNat a2.toNat a3.toNat) 32 else []
theorem detInputs_len (a0 a1 a2 a3 : Int) : (detInputs a0 a1 a2 a3).length ≤ 32 := by
  unfold detInputs
  split
  · exact elems_len _ _
  · simp
theorem stuckw_lt (w n i b : Nat) : stuckw w n i b < 2 ^ 2 ^ n := tabw_lt _ _
theorem two32 {n w : Nat} (hn : n ≤ 5) (hw : w < 2 ^ 2 ^ n) : w < 4294967296 := Nat.lt_of_lt_of_le hw (Nat.pow_le_pow_right (by decide) (size_le hn) : 2 ^ 2 ^ n ≤ 2 ^ 32)

/-- Whether a set shows a fault that can be shown. -/
def blind (w n s i b : Nat) : Bool := w ^^^ stuckw w n i b != 0 && (w ^^^ stuckw w n i b) &&& s == 0
def blinds (w n s i : Nat) : Bool := blind w n s i 0 || blind w n s i 1
/-- Whether a set shows all faults that can be shown, from a variable on. -/
def shows (w n s : Nat) : Nat → Nat → Bool
  | _, 0 => true
  | i, c + 1 => !blinds w n s i && shows w n s (i + 1) c

theorem blind_step (w n s i b : Nat) (hd : w ^^^ stuckw w n i b < 9223372036854775808) (hs : s < 9223372036854775808) (p q : Option β) :
    cond ((((w ^^^ stuckw w n i b : Nat) : Int)) != 0) (cond (bits .and .i64 ((w ^^^ stuckw w n i b : Nat) : Int) (s : Int) == 0) p q) q = cond (blind w n s i b) p q := by
  unfold blind
  rw [bAnd _ _ hd hs]
  have e : ∀ m : Nat, ((m : Int) != 0) = (m != 0) := fun m => by cases m <;> rfl
  have e2 : ∀ m : Nat, ((m : Int) == 0) = (m == 0) := fun m => by cases m <;> rfl
  rw [e, e2]
  cases (w ^^^ stuckw w n i b != 0) <;> rfl

/-- A set with more numbers. -/
def addAll (s : Nat) (l : List Int) : Nat := l.foldl (fun s x => s ||| 2 ^ x.toNat) s

theorem addAll_lt (P : Int → Bool) (hP : ∀ x, P x = true → 0 ≤ x ∧ x < 32) : ∀ (l : List Int) (s : Nat), s < 4294967296 → l.all P = true → addAll s l < 4294967296
  | [], s, hs, _ => hs
  | x :: l, s, hs, h => by
    simp only [List.all_cons, Bool.and_eq_true] at h
    have hx := hP x h.1
    exact addAll_lt P hP l _ (Nat.or_lt_two_pow (n := 32) hs (Nat.pow_lt_pow_right (by decide) (by omega))) h.2

theorem isIn_lt {a0 a1 a2 : Int} (h : isIn a0 a1 a2 = true) : 0 ≤ a2 ∧ a2 < 32 := by
  obtain ⟨n, w, x, rfl, rfl, rfl, hn, hw, -, hx⟩ := isIn_nat h
  have := size_le hn
  omega

/-- Whether a list is a test set. -/
def testSet (a0 a1 : Int) (l : List Int) : Bool := l.all (isIn a0 a1) && (isT a0 a1 && shows a1.toNat a0.toNat (addAll 0 l) 0 a0.toNat)
end Go.Proofs.Ytfdggelojmofmaa
namespace Go.Proofs.Ytfdggelojmofmaa
open Go.Rv
set_option linter.unusedVariables false
variable {β : Type}
/-- How many ones a number has, of at most so many bits. -/
def pc : Nat → Nat → Nat
  | 0, _ => 0
  | f + 1, w => w % 2 + pc f (w / 2)
theorem pc_le : ∀ f w, pc f w ≤ f
  | 0, _ => Nat.le_refl _
  | f + 1, w => by have := pc_le f (w / 2); simp only [pc]; omega
theorem pc_split : ∀ (j f c y : Nat), c < 2 ^ j → pc (j + f) (c + 2 ^ j * y) = pc j c + pc f y
  | 0, f, c, y, h => by
    have : c = 0 := by simpa using h
    subst this
    simp [pc]
  | j + 1, f, c, y, h => by
    rw [show j + 1 + f = (j + f) + 1 by omega]
    simp only [pc]
    have e : 2 ^ (j + 1) * y = 2 * (2 ^ j * y) := by rw [Nat.pow_succ]; rw [Nat.mul_comm (2 ^ j) 2, Nat.mul_assoc]
    rw [e, show (c + 2 * (2 ^ j * y)) % 2 = c % 2 by omega, show (c + 2 * (2 ^ j * y)) / 2 = c / 2 + 2 ^ j * y by omega, pc_split j f (c / 2) y (by rw [Nat.pow_succ] at h; omega)]
    omega
/-- The ones of a word. -/
def ones (w : Nat) : Nat := pc 32 w
theorem ones_le (w : Nat) : ones w ≤ 32 := pc_le 32 w
theorem ones_bytes (c0 c1 c2 c3 : Nat) (h0 : c0 < 256) (h1 : c1 < 256) (h2 : c2 < 256) (h3 : c3 < 256) : ones (c0 + 256 * (c1 + 256 * (c2 + 256 * c3))) = pc 8 c0 + (pc 8 c1 + (pc 8 c2 + pc 8 c3)) := by
  unfold ones
  rw [show (32 : Nat) = 8 + 24 from rfl, show (256 : Nat) = 2 ^ 8 from rfl, pc_split 8 24 c0 _ h0, show (24 : Nat) = 8 + 16 from rfl, pc_split 8 16 c1 _ h1, show (16 : Nat) = 8 + 8 from rfl, pc_split 8 8 c2 _ h2]

theorem and_byte (c y m M : Nat) (hc : c < 256) (hm : m < 256) : (c + 256 * y) &&& (m + 256 * M) = (c &&& m) + 256 * (y &&& M) := by
  have h1 : ((c + 256 * y) &&& (m + 256 * M)) % 2 ^ 8 = (c + 256 * y) % 2 ^ 8 &&& (m + 256 * M) % 2 ^ 8 := Nat.and_mod_two_pow
  have h2 : ((c + 256 * y) &&& (m + 256 * M)) / 2 ^ 8 = (c + 256 * y) / 2 ^ 8 &&& (m + 256 * M) / 2 ^ 8 := Nat.and_div_two_pow
  rw [show (c + 256 * y) % 2 ^ 8 = c by omega, show (m + 256 * M) % 2 ^ 8 = m by omega] at h1
  rw [show (c + 256 * y) / 2 ^ 8 = y by omega, show (m + 256 * M) / 2 ^ 8 = M by omega] at h2
  omega
theorem byte1 : ∀ c, c < 128 → ∀ b, b < 2 → (c + 128 * b) &&& 85 = c &&& 85 := by decide +kernel
theorem byte2 : ∀ c, c < 64 → ∀ b, b < 4 → (c + 64 * b) &&& 51 = c &&& 51 := by decide +kernel
theorem byte3 : ∀ c, c < 74 → ∀ b, b < 5 → (c + 16 * b) &&& 15 = c &&& 15 := by decide +kernel
theorem step1 (c y M : Nat) (hc : c < 256) : ((c + 256 * y) / 2 &&& (85 + 256 * M)) + ((c + 256 * y) &&& (85 + 256 * M)) = ((c / 2 &&& 85) + (c &&& 85)) + 256 * ((y / 2 &&& M) + (y &&& M)) := by
  rw [show (c + 256 * y) / 2 = (c / 2 + 128 * (y % 2)) + 256 * (y / 2) by omega, and_byte _ _ _ _ (by omega) (by omega), and_byte _ _ _ _ hc (by omega), byte1 _ (by omega) _ (by omega)]
  omega
theorem step2 (c y M : Nat) (hc : c < 256) : ((c + 256 * y) / 4 &&& (51 + 256 * M)) + ((c + 256 * y) &&& (51 + 256 * M)) = ((c / 4 &&& 51) + (c &&& 51)) + 256 * ((y / 4 &&& M) + (y &&& M)) := by
  rw [show (c + 256 * y) / 4 = (c / 4 + 64 * (y % 4)) + 256 * (y / 4) by omega, and_byte _ _ _ _ (by omega) (by omega), and_byte _ _ _ _ hc (by omega), byte2 _ (by omega) _ (by omega)]
  omega
theorem step3 (c y M : Nat) (hc : c ≤ 68) (hy : y % 16 ≤ 4) : ((c + 256 * y) / 16 + (c + 256 * y)) &&& (15 + 256 * M) = ((c / 16 + c) &&& 15) + 256 * ((y / 16 + y) &&& M) := by
  rw [show (c + 256 * y) / 16 + (c + 256 * y) = ((c / 16 + c) + 16 * (y % 16)) + 256 * (y / 16 + y) by omega, and_byte _ _ _ _ (by omega) (by omega), byte3 _ (by omega) _ (by omega)]
def q1 (c : Nat) : Nat := (c / 2 &&& 85) + (c &&& 85)
def q2 (c : Nat) : Nat := (c / 4 &&& 51) + (c &&& 51)
def q3 (c : Nat) : Nat := (c / 16 + c) &&& 15
theorem q_spec : ∀ c, c < 256 → q1 c < 256 ∧ q2 (q1 c) ≤ 68 ∧ q2 (q1 c) % 16 ≤ 4 ∧ q3 (q2 (q1 c)) = pc 8 c ∧ pc 8 c ≤ 8 := by decide +kernel

/-- The count as the library reckons it. -/
def swar (w : Nat) : Nat :=
  let a := (w / 2 &&& 6148914691236517205) + (w &&& 6148914691236517205)
  let b := (a / 4 &&& 3689348814741910323) + (a &&& 3689348814741910323)
  (b / 16 + b) &&& 1085102592571150095
theorem swar_eq (c0 c1 c2 c3 : Nat) (h0 : c0 < 256) (h1 : c1 < 256) (h2 : c2 < 256) (h3 : c3 < 256) :
    swar (c0 + 256 * (c1 + 256 * (c2 + 256 * c3))) = pc 8 c0 + 256 * (pc 8 c1 + 256 * (pc 8 c2 + 256 * pc 8 c3)) := by
  obtain ⟨a0, b0, d0, e0, _⟩ := q_spec c0 h0
  obtain ⟨a1, b1, d1, e1, _⟩ := q_spec c1 h1
  obtain ⟨a2, b2, d2, e2, _⟩ := q_spec c2 h2
  obtain ⟨a3, b3, d3, e3, _⟩ := q_spec c3 h3
  have s1 : ((c0 + 256 * (c1 + 256 * (c2 + 256 * (c3 + 256 * 0)))) / 2 &&& 6148914691236517205) + ((c0 + 256 * (c1 + 256 * (c2 + 256 * (c3 + 256 * 0)))) &&& 6148914691236517205) = q1 c0 + 256 * (q1 c1 + 256 * (q1 c2 + 256 * (q1 c3 + 256 * 0))) := by
    rw [show (6148914691236517205 : Nat) = 85 + 256 * (85 + 256 * (85 + 256 * (85 + 256 * 1431655765))) from rfl, step1 _ _ _ h0, step1 _ _ _ h1, step1 _ _ _ h2, step1 _ _ _ h3]
    simp [q1]
  have s2 : ((q1 c0 + 256 * (q1 c1 + 256 * (q1 c2 + 256 * (q1 c3 + 256 * 0)))) / 4 &&& 3689348814741910323) + ((q1 c0 + 256 * (q1 c1 + 256 * (q1 c2 + 256 * (q1 c3 + 256 * 0)))) &&& 3689348814741910323) = q2 (q1 c0) + 256 * (q2 (q1 c1) + 256 * (q2 (q1 c2) + 256 * (q2 (q1 c3) + 256 * 0))) := by
    rw [show (3689348814741910323 : Nat) = 51 + 256 * (51 + 256 * (51 + 256 * (51 + 256 * 858993459))) from rfl, step2 _ _ _ a0, step2 _ _ _ a1, step2 _ _ _ a2, step2 _ _ _ a3]
    simp [q2]
  have s3 : ((q2 (q1 c0) + 256 * (q2 (q1 c1) + 256 * (q2 (q1 c2) + 256 * (q2 (q1 c3) + 256 * 0)))) / 16 + (q2 (q1 c0) + 256 * (q2 (q1 c1) + 256 * (q2 (q1 c2) + 256 * (q2 (q1 c3) + 256 * 0))))) &&& 1085102592571150095 = q3 (q2 (q1 c0)) + 256 * (q3 (q2 (q1 c1)) + 256 * (q3 (q2 (q1 c2)) + 256 * (q3 (q2 (q1 c3)) + 256 * 0))) := by
    rw [show (1085102592571150095 : Nat) = 15 + 256 * (15 + 256 * (15 + 256 * (15 + 256 * 252645135))) from rfl, step3 _ _ _ b0 (by omega), step3 _ _ _ b1 (by omega), step3 _ _ _ b2 (by omega), step3 _ _ _ b3 (by omega)]
    simp [q3]
  have e : c0 + 256 * (c1 + 256 * (c2 + 256 * c3)) = c0 + 256 * (c1 + 256 * (c2 + 256 * (c3 + 256 * 0))) := by omega
  unfold swar
  rw [e]
  simp only [s1, s2, s3]
  rw [e0, e1, e2, e3]
  omega
theorem swar_sum (q0 q1 q2 q3 : Nat) (h0 : q0 ≤ 8) (h1 : q1 ≤ 8) (h2 : q2 ≤ 8) (h3 : q3 ≤ 8) (x y z u : Nat) (hx : x = q0 + 256 * (q1 + 256 * (q2 + 256 * q3))) (hy : y = x + x / 256) (hz : z = y + y / 65536) (hu : u = z + z / 4294967296) :
    u % 128 = q0 + (q1 + (q2 + q3)) ∧ u < 9223372036854775808 ∧ x < 4294967296 ∧ y < 8589934592 ∧ z < 17179869184 := by
  have e1 : x / 256 = q1 + 256 * (q2 + 256 * q3) := by omega
  have e2 : y = (q0 + q1 + 256 * (q1 + q2)) + 65536 * (q2 + q3 + 256 * q3) := by omega
  have e3 : y / 65536 = q2 + q3 + 256 * q3 := by omega
  have e4 : z = (q0 + (q1 + (q2 + q3))) + 256 * (q1 + q2 + q3 + 256 * (q2 + q3 + 256 * q3)) := by omega
  have e5 : z / 4294967296 = 0 := by omega
  have e6 : u = z := by omega
  have e7 : u % 128 = q0 + (q1 + (q2 + q3)) := by omega
  exact ⟨e7, by omega, by omega, by omega, by omega⟩

theorem wrapU_small (n : Int) (h0 : 0 ≤ n) (h1 : n < 2 ^ 64) : IntKind.u64.wrap n = n := by
  rw [IntKind.wrap_u64]
  have : (2 : Int) ^ 64 = 18446744073709551616 := by decide
  omega
theorem wu64_nat (n : Nat) (h : n < 18446744073709551616) : wu64 (n : Int) = n := by
  have : (2 : Int) ^ 64 = 18446744073709551616 := by decide
  exact wrapU_small _ (by omega) (by omega)
theorem bAndU (a b : Nat) (ha : a < 2 ^ 64) (hb : b < 2 ^ 64) : bits .and .u64 (a : Int) (b : Int) = ((a &&& b : Nat) : Int) := (bits_nat .u64 64 (by decide) wrapU_small a b ha hb).1
theorem shrU (a n : Nat) (hn : n ≤ 64) : shrI .u64 (a : Int) (n : Int) = ((a / 2 ^ n : Nat) : Int) := by
  have e : IntKind.u64.bits = 64 := rfl
  simp only [shrI, Int.toNat_natCast, e]
  rw [Nat.min_eq_left hn]; simp

def g1 (a : Int) : Int := wu64 (bits .and .u64 (shrI .u64 a 1) 6148914691236517205 + bits .and .u64 a 6148914691236517205)
def g2 (a : Int) : Int := wu64 (bits .and .u64 (shrI .u64 a 2) 3689348814741910323 + bits .and .u64 a 3689348814741910323)
def g3 (a : Int) : Int := bits .and .u64 (wu64 (shrI .u64 a 4 + a)) 1085102592571150095
def g4 (a : Int) : Int := wu64 (a + shrI .u64 a 8)
def g5 (a : Int) : Int := wu64 (a + shrI .u64 a 16)
def g6 (a : Int) : Int := wu64 (a + shrI .u64 a 32)
theorem g1_nat (w : Nat) (h : w < 9223372036854775808) : g1 (w : Int) = (((w / 2 &&& 6148914691236517205) + (w &&& 6148914691236517205) : Nat) : Int) := by
  have e1 := shrU w 1 (by omega)
  have e2 := bAndU (w / 2 ^ 1) 6148914691236517205 (by omega) (by omega)
  have e3 := bAndU w 6148914691236517205 (by omega) (by omega)
  have l1 : w / 2 ^ 1 &&& 6148914691236517205 ≤ 6148914691236517205 := Nat.and_le_right
  have l2 : w &&& 6148914691236517205 ≤ 6148914691236517205 := Nat.and_le_right
  have e4 := wu64_nat ((w / 2 ^ 1 &&& 6148914691236517205) + (w &&& 6148914691236517205)) (by omega)
  unfold g1
  rw [show (1 : Int) = ((1 : Nat) : Int) from rfl, show (6148914691236517205 : Int) = ((6148914691236517205 : Nat) : Int) from rfl, e1, e2, e3, ← Int.natCast_add, e4]
theorem g2_nat (w : Nat) (h : w < 18446744073709551616) : g2 (w : Int) = (((w / 4 &&& 3689348814741910323) + (w &&& 3689348814741910323) : Nat) : Int) := by
  have e1 := shrU w 2 (by omega)
  have e2 := bAndU (w / 2 ^ 2) 3689348814741910323 (by omega) (by omega)
  have e3 := bAndU w 3689348814741910323 (by omega) (by omega)
  have l1 : w / 2 ^ 2 &&& 3689348814741910323 ≤ 3689348814741910323 := Nat.and_le_right
  have l2 : w &&& 3689348814741910323 ≤ 3689348814741910323 := Nat.and_le_right
  have e4 := wu64_nat ((w / 2 ^ 2 &&& 3689348814741910323) + (w &&& 3689348814741910323)) (by omega)
  unfold g2
  rw [show (2 : Int) = ((2 : Nat) : Int) from rfl, show (3689348814741910323 : Int) = ((3689348814741910323 : Nat) : Int) from rfl, e1, e2, e3, ← Int.natCast_add, e4]
theorem g3_nat (w : Nat) (h : w < 9223372036854775808) : g3 (w : Int) = (((w / 16 + w) &&& 1085102592571150095 : Nat) : Int) := by
  have e1 := shrU w 4 (by omega)
  have e4 := wu64_nat (w / 2 ^ 4 + w) (by omega)
  have e2 := bAndU (w / 2 ^ 4 + w) 1085102592571150095 (by omega) (by omega)
  unfold g3
  rw [show (4 : Int) = ((4 : Nat) : Int) from rfl, show (1085102592571150095 : Int) = ((1085102592571150095 : Nat) : Int) from rfl, e1, ← Int.natCast_add, e4, e2]
theorem g4_nat (w : Nat) (h : w < 9223372036854775808) : g4 (w : Int) = ((w + w / 256 : Nat) : Int) := by
  have e1 := shrU w 8 (by omega)
  have e4 := wu64_nat (w + w / 2 ^ 8) (by omega)
  unfold g4
  rw [show (8 : Int) = ((8 : Nat) : Int) from rfl, e1, ← Int.natCast_add, e4]
theorem g5_nat (w : Nat) (h : w < 9223372036854775808) : g5 (w : Int) = ((w + w / 65536 : Nat) : Int) := by
  have e1 := shrU w 16 (by omega)
  have e4 := wu64_nat (w + w / 2 ^ 16) (by omega)
  unfold g5
  rw [show (16 : Int) = ((16 : Nat) : Int) from rfl, e1, ← Int.natCast_add, e4]
theorem g6_nat (w : Nat) (h : w < 9223372036854775808) : g6 (w : Int) = ((w + w / 4294967296 : Nat) : Int) := by
  have e1 := shrU w 32 (by omega)
  have e4 := wu64_nat (w + w / 2 ^ 32) (by omega)
  unfold g6
  rw [show (32 : Int) = ((32 : Nat) : Int) from rfl, e1, ← Int.natCast_add, e4]
end Go.Proofs.Ytfdggelojmofmaa
namespace Go.Proofs.Ytfdggelojmofmaa
open Go.Rv
set_option linter.unusedVariables false
variable {β : Type}
/-- How many numbers below one are such. -/
def cnt (g : Nat → Bool) : Nat → Nat
  | 0 => 0
  | m + 1 => cnt g m + (if g m then 1 else 0)
theorem cnt_le (g : Nat → Bool) : ∀ m, cnt g m ≤ m
  | 0 => Nat.le_refl _
  | m + 1 => by have := cnt_le g m; simp only [cnt]; split <;> omega
theorem cnt_congr {g h : Nat → Bool} : ∀ {m : Nat}, (∀ i, i < m → g i = h i) → cnt g m = cnt h m
  | 0, _ => rfl
  | m + 1, e => by simp only [cnt]; rw [cnt_congr (m := m) fun i hi => e i (by omega), e m (by omega)]
theorem cnt_shift (g : Nat → Bool) : ∀ m, cnt g (m + 1) = (if g 0 then 1 else 0) + cnt (fun i => g (i + 1)) m
  | 0 => by simp [cnt]
  | m + 1 => by
    have := cnt_shift g m
    rw [cnt, this]
    simp only [cnt]
    omega
theorem pc_cnt : ∀ (f w : Nat), pc f w = cnt w.testBit f
  | 0, _ => rfl
  | f + 1, w => by
    rw [cnt_shift, pc, pc_cnt f (w / 2)]
    congr 1
    · rw [Nat.testBit_zero]
      have := Nat.mod_two_eq_zero_or_one w
      rcases this with h | h <;> simp [h]
    · exact cnt_congr fun i _ => (Nat.testBit_succ w i).symm ▸ rfl
/-- One place turned. -/
theorem cnt_flip {g h : Nat → Bool} (x : Nat) (hx : h x = !g x) (hne : ∀ i, i ≠ x → h i = g i) : ∀ m, x < m → cnt h m + (if g x then 1 else 0) = cnt g m + (if g x then 0 else 1)
  | 0, hlt => by omega
  | m + 1, hlt => by
    simp only [cnt]
    by_cases e : x = m
    · subst e
      rw [cnt_congr (m := x) (g := h) (h := g) fun i hi => hne i (by omega), hx]
      cases g x <;> simp <;> omega
    · have := cnt_flip x hx hne m (by omega)
      rw [hne m (Ne.symm e)]
      omega

/-- Whether a variable matters at an input. -/
def edge (w i x : Nat) : Bool := w.testBit x != w.testBit (x ^^^ 2 ^ i)
def infl (w i m : Nat) : Nat := cnt (edge w i) m
def infls (w n m : Nat) : List Int := (List.range m).map fun i => ((infl w i (2 ^ n) : Nat) : Int)
theorem infls_len (w n m : Nat) : (infls w n m).length = m := by simp [infls]
theorem infls_succ (w n m : Nat) : infls w n (m + 1) = infls w n m ++ [((infl w m (2 ^ n) : Nat) : Int)] := by simp [infls, List.range_succ]
theorem infls_get (w n m i : Nat) (h : i < m) : (infls w n m)[i]? = some ((infl w i (2 ^ n) : Nat) : Int) := by simp [infls, h]

theorem spec_bit2 (w x y : Nat) (hw : w < 4294967296) : bits .and .i64 (bits .xor .i64 (shrI .i64 (w : Int) (x : Int)) (shrI .i64 (w : Int) (y : Int))) 1 = ((if w.testBit x != w.testBit y then 1 else 0 : Nat) : Int) := by
  have h1 : w / 2 ^ x < 2 ^ 63 := Nat.lt_of_le_of_lt (Nat.div_le_self _ _) (by omega)
  have h2 : w / 2 ^ y < 2 ^ 63 := Nat.lt_of_le_of_lt (Nat.div_le_self _ _) (by omega)
  rw [shr_nat w x (by omega), shr_nat w y (by omega), bXor _ _ h1 h2]
  have h3 : w / 2 ^ x ^^^ w / 2 ^ y < 2 ^ 63 := Nat.xor_lt_two_pow h1 h2
  have h4 := bit_at (w / 2 ^ x ^^^ w / 2 ^ y) 0 (by omega)
  have h5 : shrI .i64 ((w / 2 ^ x ^^^ w / 2 ^ y : Nat) : Int) ((0 : Nat) : Int) = ((w / 2 ^ x ^^^ w / 2 ^ y : Nat) : Int) := by
    rw [shr_nat _ 0 (by omega)]; simp
  rw [h5] at h4
  rw [h4]
  have e : ∀ m x : Nat, (m / 2 ^ x).testBit 0 = m.testBit x := fun m x => by
    rw [Nat.testBit_zero, Nat.testBit, Nat.shiftRight_eq_div_pow, Nat.and_comm, Nat.and_one_is_mod]
    have := Nat.mod_two_eq_zero_or_one (m / 2 ^ x)
    rcases this with h | h <;> simp [h]
  rw [Nat.testBit_xor, e, e]

/-- What is kept of whatever is handed. -/
def keptOnes (a0 a1 : Int) : Int := if isT a0 a1 then ones a1.toNat else 0
def keptList (a0 a1 : Int) : List Int := if isT a0 a1 then infls a1.toNat a0.toNat a0.toNat else []
theorem keptList_len (a0 a1 : Int) : (keptList a0 a1).length ≤ 5 := by
  unfold keptList
  split
  · rename_i h
    obtain ⟨n, w, rfl, rfl, hn, -, -⟩ := isT_nat h
    rw [infls_len]
    omega
  · simp
def ifT (a0 a1 v : Int) : Int := if isT a0 a1 then v else 0
end Go.Proofs.Ytfdggelojmofmaa
namespace Go.Proofs.Ytfdggelojmofmaa
open Go.Rv
set_option linter.unusedVariables false
set_option maxRecDepth 100000
variable {β : Type}
theorem bit_flip (w x y : Nat) : (w ^^^ 2 ^ x).testBit y = (w.testBit y ^^ decide (x = y)) := by
  rw [Nat.testBit_xor, Nat.testBit_two_pow]
theorem ones_flip (w x : Nat) (hx : x < 32) : ones (w ^^^ 2 ^ x) + (if w.testBit x then 1 else 0) = ones w + (if w.testBit x then 0 else 1) := by
  unfold ones
  rw [pc_cnt, pc_cnt]
  exact cnt_flip x (by rw [bit_flip]; simp) (fun i hi => by rw [bit_flip]; simp [Ne.symm hi]) 32 hx
theorem xor_self_cancel (a b : Nat) : a ^^^ b ^^^ b = a := by rw [Nat.xor_assoc, Nat.xor_self, Nat.xor_zero]
theorem xor_ne (x i : Nat) : x ^^^ 2 ^ i ≠ x := fun h => by
  have h1 := congrArg (fun t => t ^^^ x) h
  simp only [Nat.xor_self] at h1
  rw [Nat.xor_comm x, xor_self_cancel] at h1
  have := Nat.two_pow_pos i
  omega
theorem edge_sym (w i x : Nat) : edge w i (x ^^^ 2 ^ i) = edge w i x := by
  unfold edge
  rw [xor_self_cancel]
  cases w.testBit x <;> cases w.testBit (x ^^^ 2 ^ i) <;> rfl
theorem infl_flip (w n i x : Nat) (hi : i < n) (hx : x < 2 ^ n) : infl (w ^^^ 2 ^ x) i (2 ^ n) + (if edge w i x then 4 else 0) = infl w i (2 ^ n) + 2 := by
  have hp : x ^^^ 2 ^ i < 2 ^ n := Nat.xor_lt_two_pow hx (Nat.pow_lt_pow_right (by decide) hi)
  have hne := xor_ne x i
  let g : Nat → Bool := fun y => if y = x then !edge w i x else edge w i y
  have h1 := cnt_flip (g := edge w i) (h := g) x (by simp [g]) (fun y hy => by simp [g, hy]) (2 ^ n) hx
  have h2 := cnt_flip (g := g) (h := edge (w ^^^ 2 ^ x) i) (x ^^^ 2 ^ i) (by
      simp only [g, hne, if_false, edge_sym]
      rw [← edge_sym]
      simp only [edge, bit_flip, xor_self_cancel]
      simp only [hne.symm, decide_true, decide_false, Bool.xor_false, Bool.xor_true]
      cases w.testBit x <;> cases w.testBit (x ^^^ 2 ^ i) <;> rfl) (fun y hy => by
      by_cases e : y = x
      · subst e
        simp only [g, if_true, edge, bit_flip, decide_true, Bool.xor_true]
        simp only [hne.symm, decide_false, Bool.xor_false]
        cases w.testBit y <;> cases w.testBit (y ^^^ 2 ^ i) <;> rfl
      · have e2 : ¬ x = y ^^^ 2 ^ i := fun h => hy (by rw [h, xor_self_cancel])
        simp only [g, e, if_false, edge, bit_flip]
        simp [Ne.symm e, e2]) (2 ^ n) hp
  have h3 : g (x ^^^ 2 ^ i) = edge w i x := by simp [g, hne, edge_sym]
  rw [h3] at h2
  unfold infl
  cases he : edge w i x with
  | true => rw [he] at h1 h2; simp at h1 h2 ⊢; omega
  | false => rw [he] at h1 h2; simp at h1 h2 ⊢; omega

/-- Whether what is kept is right. -/
def isKept (a0 a1 a2 : Int) (l : List Int) : Bool := isT a0 a1 && (a2 == keptOnes a0 a1 && l == keptList a0 a1)
/-- A word flipped at all of some inputs. -/
def flips (w : Nat) (l : List Int) : Nat := l.foldl (fun w x => w ^^^ 2 ^ x.toNat) w
theorem flips_lt (n : Nat) : ∀ (l : List Int) (w : Nat), w < 2 ^ 2 ^ n → (l.all fun x => decide (0 ≤ x) && decide (x < ((2 ^ n : Nat) : Int))) = true → flips w l < 2 ^ 2 ^ n
  | [], w, hw, _ => hw
  | x :: l, w, hw, h => by
    simp only [List.all_cons, Bool.and_eq_true, decide_eq_true_eq] at h
    have hx : x.toNat < 2 ^ n := by omega
    exact flips_lt n l _ (Nat.xor_lt_two_pow hw (Nat.pow_lt_pow_right (by decide) hx)) (by simpa using h.2)
theorem isIn_n (n w : Nat) (hn : n ≤ 5) (hw : w < 2 ^ 2 ^ n) (x : Int) : isIn (n : Int) (w : Int) x = (decide (0 ≤ x) && decide (x < ((2 ^ n : Nat) : Int))) := by
  unfold isIn
  rw [isT_of hn hw]
  simp

/-- Whether a table may be flipped so. -/
def flipsOK (a0 a1 a2 : Int) (l m : List Int) : Bool := isKept a0 a1 a2 l && (decide (m.length ≤ 40) && m.all (isIn a0 a1))
theorem isKept_nat {a0 a1 a2 : Int} {l : List Int} (h : isKept a0 a1 a2 l = true) : ∃ n w : Nat, a0 = n ∧ a1 = w ∧ n ≤ 5 ∧ w < 2 ^ 2 ^ n ∧ a2 = ones w ∧ l = infls w n n := by
  simp only [isKept, Bool.and_eq_true, beq_iff_eq] at h
  obtain ⟨ht, h1, h2⟩ := h
  unfold keptOnes at h1
  unfold keptList at h2
  rw [if_pos ht] at h1 h2
  obtain ⟨n, w, rfl, rfl, hn, hw, hw'⟩ := isT_nat ht
  exact ⟨n, w, rfl, rfl, hn, hw, by simpa using h1, by simpa using h2⟩

theorem flipped_len {a0 a1 a2 : Int} {l m : List Int} (h : flipsOK a0 a1 a2 l m = true) (w : Nat) : (infls w a0.toNat a0.toNat).length ≤ 5 := by
  simp only [flipsOK, Bool.and_eq_true] at h
  obtain ⟨n, w', rfl, rfl, hn, -, -, -⟩ := isKept_nat h.1
  rw [infls_len]
  omega
end Go.Proofs.Ytfdggelojmofmaa
namespace Go.Proofs.Ytfdggelojmofmaa
open Go.Rv
set_option linter.unusedVariables false
variable {β : Type}
theorem spec_l2Full_eq (N n : Nat) (hn : n ≤ 5) (k : Int → Option β) : spec_l2Full N (n : Int) k = k ((2 ^ 2 ^ n - 1 : Nat) : Int) := by
  have hs := size_le hn
  have hp : 2 ^ 2 ^ n < 9223372036854775808 := pow_le_64 (by omega)
  have h1 := Nat.two_pow_pos (2 ^ n)
  unfold spec_l2Full
  rw [shl_u64 n hn, shl_one (2 ^ n) (by omega), decide_eq_true (by omega : (0 : Int) ≤ (n : Int)), decide_eq_true (Int.natCast_nonneg (2 ^ n)), gd_true rfl, gd_true rfl, w64_id (by omega) (by omega)]
  congr 1
  omega

/-- The least test set, as far as looked. -/
def lts (w n : Nat) : Nat → Nat
  | 0 => 2 ^ 2 ^ n - 1
  | s + 1 => if decide (ones s < ones (lts w n s)) && shows w n s 0 n then s else lts w n s
theorem lts_le (w n : Nat) : ∀ s, s ≤ 2 ^ 2 ^ n → lts w n s ≤ 2 ^ 2 ^ n - 1
  | 0, _ => Nat.le_refl _
  | s + 1, h => by
    have := lts_le w n s (by omega)
    simp only [lts]
    split <;> omega

def smallT (a0 a1 m : Int) : Bool := isT a0 a1 && decide (a0 ≤ m)
theorem impl_isSmall_eq (N : Nat) (a0 a1 m : Int) (h1 : a1 < 9223372036854775808) (k : Bool → Option β) : impl_isSmall N a0 a1 m k = k (smallT a0 a1 m) := by
  unfold impl_isSmall smallT
  rw [impl_IsTable_eq N a0 a1 h1]
  cases isT a0 a1 <;> rfl
def leastTests (a0 a1 : Int) : List Int := if smallT a0 a1 3 then elems (lts a1.toNat a0.toNat (2 ^ 2 ^ a0.toNat - 1)) 32 else []
theorem leastTests_len (a0 a1 : Int) : (leastTests a0 a1).length ≤ 32 := by
  unfold leastTests
  split
  · exact elems_len _ _
  · simp

theorem pow_small {n : Nat} (h : n ≤ 3) : 2 ^ 2 ^ n ≤ 256 := by
  have : 2 ^ n ≤ 8 := Nat.le_trans (Nat.pow_le_pow_right (by decide) h) (by decide)
  exact Nat.le_trans (Nat.pow_le_pow_right (by decide) this) (by decide)

theorem laws_markClaim_eq (N : Nat) (a b c d e : Int) (s : ByteArray) (l : List Int) (hl : l.length ≤ 1048576) (hN : 1048576 < N) (k : Int → List Int → Option β) :
    laws_markClaim N a b c d e s l 1 k = k ((1 + l.length : Nat) : Int) (marks 1 l.length) := by
  unfold laws_markClaim
  exact laws_markIntS_eq N l 1 hl (by omega) hN _
theorem laws_heldClaim_eq (N : Nat) (a b c d e : Int) (s : ByteArray) (n : Nat) (hn : n ≤ 1048576) (hN : 1048576 < N) (k : Int → Option β) :
    laws_heldClaim N a b c d e s (marks 1 n) 1 k = k ((1 + n : Nat) : Int) := by
  unfold laws_heldClaim
  have := laws_heldIntS_eq (β := β) N 1 n hn (by omega) hN fun r5 => cond (decide (r5 < 0)) (k (-1)) (k r5)
  simp only [Int.natCast_one] at this
  rw [this, decide_eq_false (by omega)]
  rfl
end Go.Proofs.Ytfdggelojmofmaa
namespace Go.Proofs.Ytfdggelojmofmaa
open Go.Rv
set_option linter.unusedVariables false
variable {β : Type}
theorem ys_bit : ∀ x, x < 32 → ∀ i, i < 5 → ∀ b, b < 2 → ys x i b = if x.testBit i == (b == 1) then x else x ^^^ 2 ^ i := by decide +kernel

theorem sees_eq (w n x i b : Nat) (hn : n ≤ 5) (hi : i < n) (hb : b < 2) (hx : x < 2 ^ n) : sees w n x i b = (x.testBit i != (b == 1) && edge w i x) := by
  have hs := size_le hn
  unfold sees edge
  rw [Nat.testBit_xor, tabw_bit, decide_eq_true hx, Bool.true_and, ys_bit x (by omega) i (by omega) b hb]
  cases h : x.testBit i == (b == 1) with
  | true =>
    simp only [if_true]
    simp only [bne, h, Bool.not_true, Bool.false_and, Bool.xor_self]
  | false =>
    simp only [Bool.false_eq_true, if_false]
    simp only [bne, h, Bool.not_false, Bool.true_and]
    try (cases w.testBit x <;> cases w.testBit (x ^^^ 2 ^ i) <;> rfl)

theorem seen_count (w n x : Nat) (hn : n ≤ 5) (hx : x < 2 ^ n) : ∀ m, m ≤ n → (seen w n x m).length = cnt (fun i => edge w i x) m
  | 0, _ => rfl
  | m + 1, h => by
    have ih := seen_count w n x hn hx m (by omega)
    simp only [seen, cnt]
    rw [sees_eq w n x m 0 hn (by omega) (by decide) hx, sees_eq w n x m 1 hn (by omega) (by decide) hx]
    rcases Bool.eq_false_or_eq_true (x.testBit m) with h1 | h1 <;> rcases Bool.eq_false_or_eq_true (edge w m x) with h2 | h2 <;> simp [addIf, ih, h1, h2]

theorem addIf_mem (c : Bool) (l : List Int) (v u : Int) : u ∈ addIf c l v ↔ u ∈ l ∨ (c = true ∧ u = v) := by
  unfold addIf
  cases c <;> simp

theorem seen_lt (w n x : Nat) : ∀ m, ∀ u ∈ seen w n x m, u < ((2 * m : Nat) : Int)
  | 0, u, h => by simp [seen] at h
  | m + 1, u, h => by
    simp only [seen, addIf_mem] at h
    rcases h with (h | h) | h
    · have := seen_lt w n x m u h; omega
    · omega
    · omega

theorem seen_mem (w n x : Nat) : ∀ m i b, i < m → b < 2 → (((2 * i + b : Nat) : Int) ∈ seen w n x m ↔ sees w n x i b = true)
  | 0, i, b, h, _ => by omega
  | m + 1, i, b, h, hb => by
    simp only [seen, addIf_mem]
    by_cases e : i = m
    · subst e
      have hlt : ¬ ((2 * i + b : Nat) : Int) ∈ seen w n x i := fun h => by have := seen_lt w n x i _ h; omega
      have hb' : b = 0 ∨ b = 1 := by omega
      rcases hb' with rfl | rfl
      · constructor
        · rintro ((h | h) | h)
          · exact absurd h hlt
          · exact h.1
          · have := h.2; omega
        · exact fun h => .inl (.inr ⟨h, rfl⟩)
      · constructor
        · rintro ((h | h) | h)
          · exact absurd h hlt
          · have := h.2; omega
          · exact h.1
        · exact fun h => .inr ⟨h, rfl⟩
    · have ih := seen_mem w n x m i b (by omega) hb
      rw [← ih]
      constructor
      · rintro ((h | h) | h)
        · exact h
        · have := h.2; omega
        · have := h.2; omega
      · exact fun h => .inl (.inl h)

theorem elems_mem (d : Nat) : ∀ m (u : Int), u ∈ elems d m ↔ ∃ x : Nat, u = x ∧ x < m ∧ d.testBit x = true
  | 0, u => by simp [elems]
  | m + 1, u => by
    simp only [elems, addIf_mem, elems_mem d m u]
    constructor
    · rintro (⟨x, h1, h2, h3⟩ | ⟨h1, h2⟩)
      · exact ⟨x, h1, by omega, h3⟩
      · exact ⟨m, h2, by omega, h1⟩
    · rintro ⟨x, h1, h2, h3⟩
      by_cases e : x = m
      · subst e; exact .inr ⟨h3, h1⟩
      · exact .inl ⟨x, h1, by omega, h3⟩

theorem elems_count (d : Nat) : ∀ m, (elems d m).length = cnt d.testBit m
  | 0 => rfl
  | m + 1 => by
    simp only [elems, cnt, ← elems_count d m, addIf]
    cases d.testBit m <;> simp

theorem cnt_range (g : Nat → Bool) : ∀ m, cnt g m = (List.range m).countP g
  | 0 => rfl
  | m + 1 => by
    rw [List.range_succ, List.countP_append, cnt, cnt_range g m]
    simp [List.countP_cons]

theorem flip_perm : ∀ n, n ≤ 5 → ∀ i, i < n → (((List.range (2 ^ n)).map fun x => x ^^^ 2 ^ i).isPerm (List.range (2 ^ n))) = true := by decide +kernel
theorem flip_bit : ∀ x, x < 32 → ∀ i, i < 5 → (x ^^^ 2 ^ i).testBit i = !x.testBit i := by decide +kernel
theorem xor_lt' : ∀ n, n ≤ 5 → ∀ i, i < n → ∀ x, x < 2 ^ n → x ^^^ 2 ^ i < 2 ^ n := by decide +kernel

theorem infl_half (w n i b : Nat) (hn : n ≤ 5) (hi : i < n) (hb : b < 2) (hw : w < 2 ^ 2 ^ n) : infl w i (2 ^ n) = 2 * (elems (w ^^^ stuckw w n i b) 32).length := by
  have hs := size_le hn
  have hd : w ^^^ stuckw w n i b < 2 ^ 2 ^ n := Nat.xor_lt_two_pow hw (stuckw_lt w n i b)
  have e1 : elems (w ^^^ stuckw w n i b) 32 = elems (w ^^^ stuckw w n i b) (2 ^ n) := by
    have := elems_more (w ^^^ stuckw w n i b) (2 ^ n) hd (32 - 2 ^ n)
    rw [show 2 ^ n + (32 - 2 ^ n) = 32 by omega] at this
    exact this
  rw [e1, elems_count]
  have e2 : cnt (w ^^^ stuckw w n i b).testBit (2 ^ n) = cnt (fun x => x.testBit i != (b == 1) && edge w i x) (2 ^ n) := cnt_congr fun x hx => sees_eq w n x i b hn hi hb hx
  have e3 : cnt (fun x => x.testBit i != (b == 1) && edge w i x) (2 ^ n) = cnt (fun x => x.testBit i == (b == 1) && edge w i x) (2 ^ n) := by
    rw [cnt_range, cnt_range]
    have hp := (List.isPerm_iff.1 (flip_perm n hn i hi)).countP_eq (fun x => x.testBit i == (b == 1) && edge w i x)
    rw [List.countP_map] at hp
    rw [← hp]
    apply List.countP_congr
    intro x hx
    have hx := List.mem_range.1 hx
    simp only [Function.comp]
    rw [edge_sym, flip_bit x (by omega) i (by omega)]
    cases x.testBit i <;> cases (b == 1) <;> cases edge w i x <;> decide
  have e4 : infl w i (2 ^ n) = cnt (fun x => x.testBit i != (b == 1) && edge w i x) (2 ^ n) + cnt (fun x => x.testBit i == (b == 1) && edge w i x) (2 ^ n) := by
    unfold infl
    generalize 2 ^ n = m
    induction m with
    | zero => rfl
    | succ m ih =>
      simp only [cnt]
      rw [ih]
      rcases Bool.eq_false_or_eq_true (m.testBit i) with h1 | h1 <;> rcases Bool.eq_false_or_eq_true (b == 1) with h2 | h2 <;> rcases Bool.eq_false_or_eq_true (edge w i m) with h3 | h3 <;> simp only [h1, h2, h3] <;> simp <;> omega
  rw [e4, e2, ← e3]
  omega
end Go.Proofs.Ytfdggelojmofmaa
namespace Go.Proofs.Ytfdggelojmofmaa
open Go.Rv
set_option linter.unusedVariables false
variable {β : Type}
theorem remI_len (m : Nat) (c : Nat) (hc : 0 < c) : remI (m : Int) (c : Int) = ((m % c : Nat) : Int) := by
  unfold remI
  exact (Int.ofNat_tmod m c).symm
/-- How many faults can be seen. -/
def countD (a0 a1 : Int) : Int := if isT a0 a1 then ((2 * (vars a1.toNat a0.toNat a0.toNat).length : Nat) : Int) else -1
/-- How many variables matter at an input. -/
def sens (w n x : Nat) : Nat := cnt (fun i => edge w i x) n
end Go.Proofs.Ytfdggelojmofmaa
namespace Go.Proofs.Ytfdggelojmofmaa
open Go.Rv
set_option linter.unusedVariables false
variable {β : Type}
theorem shows_iff (w n s : Nat) : ∀ c i, shows w n s i c = true ↔ ∀ j, i ≤ j → j < i + c → blinds w n s j = false
  | 0, i => by simp only [shows, true_iff]; intro j h1 h2; omega
  | c + 1, i => by
    simp only [shows, Bool.and_eq_true, Bool.not_eq_true', shows_iff w n s c (i + 1)]
    constructor
    · rintro ⟨h1, h2⟩ j h3 h4
      by_cases e : j = i
      · subst e; exact h1
      · exact h2 j (by omega) (by omega)
    · exact fun h => ⟨h i (by omega) (by omega), fun j h1 h2 => h j (by omega) (by omega)⟩
theorem blind_full (w n i b : Nat) (hw : w < 2 ^ 2 ^ n) : blind w n (2 ^ 2 ^ n - 1) i b = false := by
  unfold blind
  have hd : w ^^^ stuckw w n i b < 2 ^ 2 ^ n := Nat.xor_lt_two_pow hw (stuckw_lt w n i b)
  rw [Nat.and_two_pow_sub_one_eq_mod, Nat.mod_eq_of_lt hd]
  cases h : (w ^^^ stuckw w n i b) == 0 <;> simp [bne, h]
theorem lts_shows (w n : Nat) (hw : w < 2 ^ 2 ^ n) : ∀ s, shows w n (lts w n s) 0 n = true
  | 0 => (shows_iff w n _ n 0).2 fun j _ _ => by simp only [lts, blinds, blind_full w n j _ hw, Bool.or_self]
  | s + 1 => by
    simp only [lts]
    split
    · rename_i h
      exact (Bool.and_eq_true _ _ ▸ h).2
    · exact lts_shows w n hw s
theorem ones_full : ∀ n, n ≤ 3 → 0 < ones (2 ^ 2 ^ n - 1) := by decide +kernel
theorem lts_zero (w n : Nat) (hn : n ≤ 3) (h : shows w n 0 0 n = true) : ∀ s, lts w n (s + 1) = 0
  | 0 => by
    have e : lts w n 1 = if decide (ones 0 < ones (2 ^ 2 ^ n - 1)) && shows w n 0 0 n then 0 else 2 ^ 2 ^ n - 1 := rfl
    rw [e, h, decide_eq_true (show ones 0 < ones (2 ^ 2 ^ n - 1) from ones_full n hn)]
    rfl
  | s + 1 => by
    rw [lts, lts_zero w n hn h s, if_neg]
    simp only [Bool.and_eq_true, decide_eq_true_eq, not_and]
    intro h1
    exact absurd h1 (Nat.not_lt_zero _)
theorem dep_const : ∀ n, n ≤ 3 → ∀ w, w < 2 ^ 2 ^ n → ((∀ i, i < n → dep w n i = false) ↔ (w == 0 || w == 2 ^ 2 ^ n - 1) = true) := by decide +kernel
theorem dep_d (w n i b : Nat) (hn : n ≤ 5) (hi : i < n) (hb : b < 2) (hw : w < 2 ^ 2 ^ n) : (w ^^^ stuckw w n i b != 0) = dep w n i := by
  rw [← detects w n i b hn hi hb hw]
  show (w ^^^ stuckw w n i b != 0) = (((w ^^^ stuckw w n i b : Nat) : Int) != 0)
  generalize w ^^^ stuckw w n i b = m
  cases m <;> rfl
theorem blind_zero (w n i b : Nat) (hn : n ≤ 5) (hi : i < n) (hb : b < 2) (hw : w < 2 ^ 2 ^ n) : blind w n 0 i b = dep w n i := by
  unfold blind
  rw [dep_d w n i b hn hi hb hw, Nat.and_zero]
  simp
theorem shows_zero (w n : Nat) (hn : n ≤ 3) (hw : w < 2 ^ 2 ^ n) : shows w n 0 0 n = (w == 0 || w == 2 ^ 2 ^ n - 1) := by
  rw [Bool.eq_iff_iff, ← dep_const n hn w hw, shows_iff]
  constructor
  · intro h i hi
    have := h i (Nat.zero_le _) (by omega)
    simpa [blinds, blind_zero w n i _ (by omega) hi _ hw] using this
  · intro h i _ hi
    have := h i (by omega)
    simp [blinds, blind_zero w n i _ (by omega : n ≤ 5) (by omega : i < n) _ hw, this]

theorem elems_nil (d : Nat) (hd : d < 4294967296) (h : elems d 32 = []) : d = 0 := by
  apply Nat.eq_of_testBit_eq
  intro x
  rw [Nat.zero_testBit]
  by_cases hx : x < 32
  · cases hb : d.testBit x with
    | false => rfl
    | true =>
      have := (elems_mem d 32 (x : Int)).2 ⟨x, rfl, hx, hb⟩
      rw [h] at this
      cases this
  · exact Nat.testBit_lt_two_pow (Nat.lt_of_lt_of_le hd (Nat.pow_le_pow_right (by decide : 0 < 2) (by omega : 32 ≤ x)))
theorem add_elems : ∀ S, S < 256 → addAll 0 (elems S 32) = S := by decide +kernel

/-- Whether some input of a list shows a fault. -/
def anyD (n w : Nat) (t : List Int) (k : Int) : Bool := t.any fun x => (detectedBy (n : Int) (w : Int) x).contains k
theorem det_mem (n w x i b : Nat) (hn : n ≤ 5) (hw : w < 2 ^ 2 ^ n) (hx : x < 2 ^ n) (hi : i < n) (hb : b < 2) : (detectedBy (n : Int) (w : Int) (x : Int)).contains ((2 * i + b : Nat) : Int) = sees w n x i b := by
  unfold detectedBy
  have hin : isIn (n : Int) (w : Int) (x : Int) = true := by
    rw [isIn_n n w hn hw]
    simp only [Bool.and_eq_true, decide_eq_true_eq]
    omega
  rw [if_pos hin, Bool.eq_iff_iff, List.contains_iff_mem]
  simp only [Int.toNat_natCast]
  exact seen_mem w n x n i b hi hb

theorem anyD_dep (n w S i b : Nat) (hn : n ≤ 3) (hw : w < 2 ^ 2 ^ n) (hS : S < 2 ^ 2 ^ n) (hsh : shows w n S 0 n = true) (hi : i < n) (hb : b < 2) : anyD n w (elems S 32) ((2 * i + b : Nat) : Int) = dep w n i := by
  have hd : w ^^^ stuckw w n i b < 2 ^ 2 ^ n := Nat.xor_lt_two_pow hw (stuckw_lt w n i b)
  have hs := size_le (by omega : n ≤ 5)
  have small : ∀ m x : Nat, m < 2 ^ 2 ^ n → m.testBit x = true → x < 2 ^ n := fun m x hm hb => by
    rcases Nat.lt_or_ge x (2 ^ n) with h | h
    · exact h
    · rw [Nat.testBit_lt_two_pow (Nat.lt_of_lt_of_le hm (Nat.pow_le_pow_right (by decide) h))] at hb
      cases hb
  rw [← dep_d w n i b (by omega) hi hb hw, Bool.eq_iff_iff]
  unfold anyD
  rw [List.any_eq_true, bne_iff_ne]
  constructor
  · rintro ⟨u, hu, hc⟩ h0
    obtain ⟨x, rfl, hx, hbit⟩ := (elems_mem S 32 u).1 hu
    rw [det_mem n w x i b (by omega) hw (small S x hS hbit) hi hb] at hc
    have : (w ^^^ stuckw w n i b).testBit x = true := hc
    rw [h0, Nat.zero_testBit] at this
    cases this
  · intro h0
    have hbl := (shows_iff w n S n 0).1 hsh i (Nat.zero_le _) (by omega)
    have hbl2 : blind w n S i b = false := by
      have hb' : b = 0 ∨ b = 1 := by omega
      simp only [blinds, Bool.or_eq_false_iff] at hbl
      rcases hb' with rfl | rfl
      · exact hbl.1
      · exact hbl.2
    have hne : (w ^^^ stuckw w n i b) &&& S ≠ 0 := by
      intro e
      unfold blind at hbl2
      rw [e, bne_iff_ne.2 h0] at hbl2
      simp at hbl2
    obtain ⟨x, hx⟩ := Nat.exists_testBit_of_ne_zero hne
    rw [Nat.testBit_and, Bool.and_eq_true] at hx
    have hlt := small S x hS hx.2
    exact ⟨(x : Int), (elems_mem S 32 _).2 ⟨x, rfl, by omega, hx.2⟩, by rw [det_mem n w x i b (by omega) hw hlt hi hb]; exact hx.1⟩

theorem cnt_vars (n w : Nat) (g : Nat → Bool) : ∀ m, (∀ i b, i < m → b < 2 → g (2 * i + b) = dep w n i) → cnt g (2 * m) = 2 * (vars w n m).length
  | 0, _ => rfl
  | m + 1, h => by
    have ih := cnt_vars n w g m fun i b hi hb => h i b (by omega) hb
    have e0 := h m 0 (by omega) (by decide)
    have e1 := h m 1 (by omega) (by decide)
    rw [Nat.add_zero] at e0
    rw [show 2 * (m + 1) = 2 * m + 1 + 1 by omega, cnt, cnt, ih, e0, e1, vars_succ]
    cases dep w n m <;> simp <;> omega
end Go.Proofs.Ytfdggelojmofmaa
namespace Go.Proofs.Ytfdggelojmofmaa
open Go.Rv
set_option linter.unusedVariables false
variable {β : Type}
theorem mxI_nat (a b : Nat) : mxI (a : Int) (b : Int) = ((max a b : Nat) : Int) := by unfold mxI; split <;> omega
theorem mnI_nat (a b : Nat) : mnI (a : Int) (b : Int) = ((min a b : Nat) : Int) := by unfold mnI; split <;> omega
/-- The greatest of some numbers, 0 at least. -/
def mx (f : Nat → Nat) : Nat → Nat
  | 0 => 0
  | m + 1 => max (mx f m) (f m)
theorem mx_le (f : Nat → Nat) (B : Nat) : ∀ m, (∀ x, x < m → f x ≤ B) → mx f m ≤ B
  | 0, _ => Nat.zero_le _
  | m + 1, h => by
    have h1 := mx_le f B m fun x hx => h x (by omega)
    have h2 := h m (by omega)
    simp only [mx]
    omega

theorem sens_le (w n x : Nat) : sens w n x ≤ n := cnt_le _ n
/-- The sensitivity of a table. -/
def sensOf (w n : Nat) : Nat := mx (sens w n) (2 ^ n)
theorem sensOf_le (w n : Nat) : sensOf w n ≤ n := mx_le _ _ _ fun x _ => sens_le w n x
/-! ### Certificates -/

/-- Whether a value is seen at an input that agrees, below one. -/
def sc (w m v : Nat) (b : Bool) : Nat → Bool
  | 0 => false
  | x + 1 => sc w m v b x || (x &&& m == v && w.testBit x == b)
def cres (p q : Bool) : Int := cond p (cond q 2 0) (cond q 1 (-1))
/-- Whether both values are seen. -/
def bothV (w n m v : Nat) : Bool := sc w m v false (2 ^ n) && sc w m v true (2 ^ n)
theorem sc_mono (w m v : Nat) (b : Bool) (x : Nat) (h : sc w m v b x = true) : ∀ d, sc w m v b (x + d) = true
  | 0 => h
  | d + 1 => by rw [← Nat.add_assoc, sc, sc_mono w m v b x h d]; rfl

theorem bit_ne (c d : Bool) : (((if c then 1 else 0 : Nat) : Int) == ((if d then 1 else 0 : Nat) : Int)) = (c == d) := by cases c <;> cases d <;> rfl
theorem spec_l3Cube_eq (N : Nat) (hN : 64 < N) (n w m v : Nat) (hn : n ≤ 5) (hw : w < 4294967296) (hm : m < 4294967296) (k : Int → Option β) :
    spec_l3Cube N (n : Int) (w : Int) (m : Int) (v : Int) k = k (cres (sc w m v false (2 ^ n)) (sc w m v true (2 ^ n))) := by
  have hs := size_le hn
  unfold spec_l3Cube
  have key : ∀ (F x : Nat), 2 ^ n - x < F → x ≤ 2 ^ n → (sc w m v false x && sc w m v true x) = false →
      spec_l3Cube_l0 N F (m : Int) (v : Int) (cres (sc w m v false x) (sc w m v true x)) (x : Int) (n : Int) (w : Int) k k = k (cres (sc w m v false (2 ^ n)) (sc w m v true (2 ^ n))) := by
    intro F
    induction F with
    | zero => intro x h; omega
    | succ F ih =>
      intro x hF hx hno
      simp only [spec_l3Cube_l0, spec_l3Cube_l0b]
      rw [gd_true (decide_eq_true (by omega : (0 : Int) ≤ (n : Int))), shl_one n (by omega)]
      by_cases hlt : x < 2 ^ n
      · rw [decide_eq_true (by omega : (x : Int) < ((2 ^ n : Nat) : Int)), cond_true, bAnd x m (by omega) (by omega), bit_at w x (by omega), w64_succ x (by omega), gd_true (decide_eq_true (by omega : (0 : Int) ≤ (x : Int)))]
        have e0 : (((x &&& m : Nat) : Int) != (v : Int)) = !(x &&& m == v) := by
          rw [bne, Bool.eq_iff_iff]
          simp only [Bool.not_eq_true', beq_eq_false_iff_ne, ne_eq]
          omega
        rw [e0]
        have ih' := ih (x + 1) (by omega) (by omega)
        have s0 : ∀ b, sc w m v b (x + 1) = (sc w m v b x || (x &&& m == v && w.testBit x == b)) := fun _ => rfl
        rw [s0, s0] at ih'
        cases hv : (x &&& m == v) with
        | false =>
          rw [hv] at ih'
          simp only [Bool.false_and, Bool.or_false] at ih'
          rw [Bool.not_false, cond_true]
          exact ih' hno
        | true =>
          rw [hv] at ih'
          simp only [Bool.true_and] at ih'
          rw [Bool.not_true, cond_false]
          have both : sc w m v false (x + 1) = true → sc w m v true (x + 1) = true → cres (sc w m v false (2 ^ n)) (sc w m v true (2 ^ n)) = 2 := fun h1 h2 => by
            have h3 := sc_mono w m v false (x + 1) h1 (2 ^ n - (x + 1))
            have h4 := sc_mono w m v true (x + 1) h2 (2 ^ n - (x + 1))
            rw [show x + 1 + (2 ^ n - (x + 1)) = 2 ^ n by omega] at h3 h4
            rw [h3, h4]
            rfl
          rw [s0, s0, hv] at both
          simp only [Bool.true_and] at both
          generalize cres (sc w m v false (2 ^ n)) (sc w m v true (2 ^ n)) = R at ih' both ⊢
          cases h0 : sc w m v false x <;> cases h1 : sc w m v true x <;> cases hb : w.testBit x <;> rw [h0, h1] at hno <;> simp only [h0, h1, hb] at ih' both <;> simp [cres] at hno ih' both ⊢ <;> first | exact ih' | (rw [both]) | (cases hno)
      · rw [decide_eq_false (by omega : ¬ (x : Int) < ((2 ^ n : Nat) : Int)), cond_false, show x = 2 ^ n by omega]
  exact key N 0 (by omega) (Nat.zero_le _) rfl

/-- The least certificate, as far as looked. -/
def cert (w n x : Nat) : Nat → Nat
  | 0 => 2 ^ n - 1
  | m + 1 => if decide (ones m < ones (cert w n x m)) && !bothV w n m (x &&& m) then m else cert w n x m
theorem cert_lt (w n x : Nat) : ∀ m, m ≤ 2 ^ n → cert w n x m < 2 ^ n
  | 0, _ => Nat.sub_lt (Nat.two_pow_pos n) (by decide)
  | m + 1, h => by
    have := cert_lt w n x m (by omega)
    simp only [cert]
    split <;> omega
/-- How great the certificates of a value's inputs are. -/
def certOf (w n : Nat) (b : Bool) : Nat := mx (fun x => if w.testBit x == b then ones (cert w n x (2 ^ n)) else 0) (2 ^ n)
theorem certOf_le (w n : Nat) (b : Bool) : certOf w n b ≤ 32 := mx_le _ _ _ fun x _ => by
  show (if w.testBit x == b then ones (cert w n x (2 ^ n)) else 0) ≤ 32
  have := ones_le (cert w n x (2 ^ n))
  split <;> omega
theorem isIn_of {n w x : Nat} (hn : n ≤ 5) (hw : w < 2 ^ 2 ^ n) (hx : x < 2 ^ n) : isIn (n : Int) (w : Int) (x : Int) = true := by
  simp only [isIn, isT_of hn hw, Bool.true_and, Bool.and_eq_true, decide_eq_true_eq, Int.toNat_natCast]
  exact ⟨by omega, by exact_mod_cast hx⟩
end Go.Proofs.Ytfdggelojmofmaa
namespace Go.Proofs.Ytfdggelojmofmaa
open Go.Rv
set_option linter.unusedVariables false
variable {β : Type}
/-- A sum. -/
def sm (f : Nat → Nat) : Nat → Nat
  | 0 => 0
  | m + 1 => sm f m + f m
theorem sm_add (f g : Nat → Nat) : ∀ m, sm (fun x => f x + g x) m = sm f m + sm g m
  | 0 => rfl
  | m + 1 => by simp only [sm, sm_add f g m]; omega
theorem sm_cnt (g : Nat → Bool) : ∀ m, sm (fun x => if g x then 1 else 0) m = cnt g m
  | 0 => rfl
  | m + 1 => by simp only [sm, cnt, sm_cnt g m]
theorem sm_zero : ∀ m, sm (fun _ => 0) m = 0
  | 0 => rfl
  | m + 1 => by simp only [sm, sm_zero m]
theorem sm_le (f : Nat → Nat) (B : Nat) : ∀ m, (∀ x, x < m → f x ≤ B) → sm f m ≤ m * B
  | 0, _ => by simp [sm]
  | m + 1, h => by
    have h1 := sm_le f B m fun x hx => h x (by omega)
    have h2 := h m (by omega)
    simp only [sm, Nat.add_mul]
    omega
theorem sm_congr {f g : Nat → Nat} : ∀ {m : Nat}, (∀ x, x < m → f x = g x) → sm f m = sm g m
  | 0, _ => rfl
  | m + 1, h => by simp only [sm]; rw [sm_congr fun x hx => h x (by omega), h m (by omega)]
theorem sm_swap (e : Nat → Nat → Bool) (n : Nat) : ∀ M, sm (fun x => cnt (fun i => e i x) n) M = sm (fun i => cnt (e i) M) n
  | 0 => by simp only [sm, cnt]; exact (sm_zero n).symm
  | M + 1 => by
    simp only [sm, cnt]
    rw [sm_swap e n M, sm_add, sm_cnt]

/-- The sum of all influences. -/
def total (w n : Nat) : Nat := sm (fun i => infl w i (2 ^ n)) n
theorem infl_le (w i m : Nat) : infl w i m ≤ m := cnt_le _ m
theorem total_le (w n : Nat) (hn : n ≤ 5) : total w n ≤ 160 := by
  have hs := size_le hn
  have := sm_le (fun i => infl w i (2 ^ n)) 32 n fun i _ => Nat.le_trans (infl_le w i _) hs
  unfold total
  omega
theorem sm_even (f : Nat → Nat) : ∀ m, (∀ x, x < m → f x % 2 = 0) → sm f m % 2 = 0
  | 0, _ => rfl
  | m + 1, h => by
    have h1 := sm_even f m fun x hx => h x (by omega)
    have h2 := h m (by omega)
    simp only [sm]
    omega
theorem total_even (w n : Nat) (hn : n ≤ 5) (hw : w < 2 ^ 2 ^ n) : total w n % 2 = 0 := sm_even _ n fun i hi => by
  show infl w i (2 ^ n) % 2 = 0
  rw [infl_half w n i 0 hn hi (by decide) hw]
  omega
/-! ### Degrees -/

/-- The greatest number of ones of a number that is such; -1, if none is. -/
def dg (p : Nat → Bool) : Nat → Int
  | 0 => -1
  | m + 1 => if p m then mxI (dg p m) (ones m : Int) else dg p m
theorem dg_bound (p : Nat → Bool) : ∀ m, -1 ≤ dg p m ∧ dg p m ≤ 32
  | 0 => by simp [dg]
  | m + 1 => by
    have h1 := dg_bound p m
    have h2 := ones_le m
    simp only [dg, mxI]
    split
    · split <;> omega
    · exact h1
theorem dg_congr {p q : Nat → Bool} : ∀ {m : Nat}, (∀ x, x < m → p x = q x) → dg p m = dg q m
  | 0, _ => rfl
  | m + 1, h => by simp only [dg]; rw [dg_congr fun x hx => h x (by omega), h m (by omega)]
/-- Whether a value is summed for a set: parts of it with value 1. -/
def part (w m x : Nat) : Bool := x &&& m == x && w.testBit x
theorem part_gt (w m x : Nat) (h : m < x) : (x &&& m == x) = false := by
  have : x &&& m ≤ m := Nat.and_le_right
  exact beq_false_of_ne (by omega)
theorem cnt_part (w m : Nat) : ∀ d, cnt (part w m) (m + 1 + d) = cnt (part w m) (m + 1)
  | 0 => rfl
  | d + 1 => by
    rw [← Nat.add_assoc, cnt, cnt_part w m d]
    unfold part
    rw [part_gt w m (m + 1 + d) (by omega)]
    rfl
/-- The coefficients modulo 2. -/
def anf (w n : Nat) : Nat := tabw (fun m => cnt (part w m) (2 ^ n) % 2 == 1) (2 ^ n)
theorem anf_lt (w n : Nat) : anf w n < 2 ^ 2 ^ n := tabw_lt _ _
theorem and_eq (x m : Nat) : (((x &&& m : Nat) : Int) == (x : Int)) = (x &&& m == x) := by
  rw [Bool.eq_iff_iff, beq_iff_eq, beq_iff_eq]
  omega
theorem andnot_eq (x m : Nat) : (((x ^^^ (x &&& m) : Nat) : Int) == 0) = (x &&& m == x) := by
  rw [Bool.eq_iff_iff, beq_iff_eq, beq_iff_eq]
  constructor
  · intro h
    have h : x ^^^ (x &&& m) = 0 := by omega
    have h2 := xor_self_cancel x (x &&& m)
    rw [h, Nat.zero_xor] at h2
    exact h2
  · intro h
    rw [h, Nat.xor_self]
    rfl
theorem xor_bit (c : Nat) (b : Bool) : bits .xor .i64 ((c % 2 : Nat) : Int) ((if b then 1 else 0 : Nat) : Int) = (((c + (if b then 1 else 0)) % 2 : Nat) : Int) := by
  have hmod := Nat.mod_lt c (by decide : 0 < 2)
  rw [bXor _ _ (by omega) (by split <;> omega)]
  rcases Nat.mod_two_eq_zero_or_one c with h | h <;> cases b <;> simp [h] <;> omega
theorem bit_eq_one (c : Bool) : (((if c then 1 else 0 : Nat) : Int) == 1) = c := by cases c <;> rfl
/-- A coefficient of the polynomial with integers. -/
def cf (w m : Nat) : Nat → Int
  | 0 => 0
  | x + 1 => if x &&& m == x then (if ones (m ^^^ x) % 2 == 1 then cf w m x - ((if w.testBit x then 1 else 0 : Nat) : Int) else cf w m x + ((if w.testBit x then 1 else 0 : Nat) : Int)) else cf w m x
theorem cf_bound (w m : Nat) : ∀ x : Nat, -(x : Int) ≤ cf w m x ∧ cf w m x ≤ (x : Int)
  | 0 => by simp [cf]
  | x + 1 => by
    have h := cf_bound w m x
    have hb : ((if w.testBit x then 1 else 0 : Nat) : Int) = 0 ∨ ((if w.testBit x then 1 else 0 : Nat) : Int) = 1 := by cases w.testBit x <;> simp
    simp only [cf]
    split
    · split <;> omega
    · omega
theorem cf_more (w m : Nat) : ∀ d, cf w m (m + 1 + d) = cf w m (m + 1)
  | 0 => rfl
  | d + 1 => by
    rw [← Nat.add_assoc, cf, cf_more w m d, part_gt w m (m + 1 + d) (by omega)]
    rfl
def cfs (w n m : Nat) : List Int := (List.range m).map fun m => cf w m (2 ^ n)
theorem cfs_len (w n m : Nat) : (cfs w n m).length = m := by simp [cfs]
theorem cfs_get (w n m i : Nat) (h : i < m) : (cfs w n m)[i]? = some (cf w i (2 ^ n)) := by simp [cfs, h]
theorem cfs_succ (w n m : Nat) : cfs w n (m + 1) = cfs w n m ++ [cf w m (2 ^ n)] := by simp [cfs, List.range_succ]
theorem xor_small : ∀ m, m < 32 → ∀ x, x < 32 → m ^^^ x < 32 := by decide +kernel
/-- The degree of a table. -/
def deg (w n : Nat) : Int := dg (fun m => cf w m (2 ^ n) != 0) (2 ^ n)
theorem cfs_rd (w n m : Nat) (h : m < 2 ^ n) : rd 0 (cfs w n (2 ^ n)) (m : Int) = cf w m (2 ^ n) := by
  rw [rd_nat 0 _ m (by rw [cfs_len]; exact h)]
  have := cfs_get w n (2 ^ n) m h
  rw [List.getElem?_eq_getElem (by rw [cfs_len]; exact h)] at this
  exact Option.some.inj this
end Go.Proofs.Ytfdggelojmofmaa
namespace Go.Proofs.Ytfdggelojmofmaa
open Go.Rv
set_option linter.unusedVariables false
variable {β : Type}
/-- Whether a block changes the value. -/
def ch (w x b : Nat) : Bool := w.testBit x != w.testBit (x ^^^ b)
theorem ch_zero (w x : Nat) : ch w x 0 = false := by simp [ch]
/-- The least blocks, as far as looked. -/
def sb (g : Nat → Bool) : Nat → List Nat
  | 0 => []
  | b + 1 => if g b && (sb g b).all (fun m => !(m &&& b == m)) then sb g b ++ [b] else sb g b
theorem sb_lt (g : Nat → Bool) : ∀ b, ∀ m ∈ sb g b, m < b
  | 0, m, h => by cases h
  | b + 1, m, h => by
    simp only [sb] at h
    split at h
    · rcases List.mem_append.1 h with h | h
      · have := sb_lt g b m h; omega
      · simp at h; omega
    · have := sb_lt g b m h; omega
theorem sb_len (g : Nat → Bool) : ∀ b, (sb g b).length ≤ b
  | 0 => by simp [sb]
  | b + 1 => by
    have := sb_len g b
    simp only [sb]
    split
    · simp; omega
    · omega
def ints (l : List Nat) : List Int := l.map (fun (m : Nat) => (m : Int))
theorem ints_len (l : List Nat) : (ints l).length = l.length := by simp [ints]
theorem ints_rd (l : List Nat) (i : Nat) (h : i < l.length) : rd 0 (ints l) (i : Int) = ((l[i] : Nat) : Int) := by
  rw [rd_nat 0 _ i (by rw [ints_len]; exact h)]
  simp [ints]

theorem block_lt : ∀ n, n ≤ 4 → ∀ x, x < 2 ^ n → ∀ b, b < 2 ^ n → x ^^^ b < 2 ^ n := by decide +kernel
theorem size4 {n : Nat} (h : n ≤ 4) : 2 ^ n ≤ 16 := Nat.le_trans (Nat.pow_le_pow_right (by decide) h) (by decide)

/-- The greatest number of blocks of a list that have nothing in common. -/
def pk : List Nat → Nat → Nat
  | [], _ => 0
  | b :: l, u => if b &&& u == 0 then max (1 + pk l (u ||| b)) (pk l u) else pk l u
theorem pk_le : ∀ (l : List Nat) (u : Nat), pk l u ≤ l.length
  | [], _ => Nat.le_refl _
  | b :: l, u => by
    have h1 := pk_le l (u ||| b)
    have h2 := pk_le l u
    simp only [pk, List.length_cons]
    split <;> omega
theorem or_small : ∀ a, a < 16 → ∀ b, b < 16 → a ||| b < 16 := by decide +kernel
/-! ### The same by sets -/
def stepN (s : Nat) (a : List Nat) (b : Nat) : List Nat := if b &&& s == b then a.set s (max (a.getD s 0) (1 + a.getD (s ^^^ (s &&& b)) 0)) else a
def dpRow (l : List Nat) (s : Nat) (a : List Nat) : List Nat := l.foldl (stepN s) a
def dpTo (l : List Nat) (M : Nat) : Nat → List Nat
  | 0 => List.replicate M 0
  | s + 1 => dpRow l s (dpTo l M s)
theorem stepN_len (s : Nat) (a : List Nat) (b : Nat) : (stepN s a b).length = a.length := by unfold stepN; split <;> simp
theorem dpRow_len (s : Nat) : ∀ (l a : List Nat), (dpRow l s a).length = a.length
  | [], a => rfl
  | b :: l, a => by rw [dpRow, List.foldl_cons]; exact (dpRow_len s l _).trans (stepN_len s a b)
theorem dpTo_len (l : List Nat) (M : Nat) : ∀ s, (dpTo l M s).length = M
  | 0 => by simp [dpTo]
  | s + 1 => by rw [dpTo, dpRow_len, dpTo_len l M s]
theorem getD_bound {a : List Nat} {c : Nat} (h : ∀ v ∈ a, v ≤ c) (i : Nat) : a.getD i 0 ≤ c := by
  rw [List.getD_eq_getElem?_getD]
  rcases Nat.lt_or_ge i a.length with hi | hi
  · rw [List.getElem?_eq_getElem hi]; exact h _ (List.getElem_mem hi)
  · rw [List.getElem?_eq_none hi]; exact Nat.zero_le _
theorem stepN_bound {s : Nat} {a : List Nat} {b c : Nat} (h : ∀ v ∈ a, v ≤ c) : ∀ v ∈ stepN s a b, v ≤ c + 1 := by
  intro v hv
  have h1 := getD_bound h s
  have h2 := getD_bound h (s ^^^ (s &&& b))
  unfold stepN at hv
  split at hv
  · rcases List.mem_or_eq_of_mem_set hv with hv | hv
    · have := h v hv; omega
    · omega
  · have := h v hv; omega
theorem dpRow_bound {s : Nat} : ∀ {l a : List Nat} {c : Nat}, (∀ v ∈ a, v ≤ c) → ∀ v ∈ dpRow l s a, v ≤ c + l.length
  | [], a, c, h, v, hv => h v hv
  | b :: l, a, c, h, v, hv => by
    have := dpRow_bound (l := l) (stepN_bound (s := s) (b := b) h) v hv
    simp only [List.length_cons]
    omega
theorem dpTo_bound (l : List Nat) (M : Nat) : ∀ s, ∀ v ∈ dpTo l M s, v ≤ s * l.length
  | 0, v, hv => by
    simp only [dpTo, List.mem_replicate] at hv
    omega
  | s + 1, v, hv => by
    have := dpRow_bound (dpTo_bound l M s) v hv
    rw [Nat.add_mul, Nat.one_mul]
    exact this
theorem ints_getD (a : List Nat) (i : Nat) : rd 0 (ints a) (i : Int) = ((a.getD i 0 : Nat) : Int) := by
  rcases Nat.lt_or_ge i a.length with h | h
  · rw [ints_rd a i h, List.getD_eq_getElem?_getD, List.getElem?_eq_getElem h]; rfl
  · rw [List.getD_eq_getElem?_getD, List.getElem?_eq_none h]
    simp [rd, ints, List.getElem?_eq_none h]
theorem ints_set (a : List Nat) (i v : Nat) : wr (ints a) (i : Int) (v : Int) = ints (a.set i v) := by
  simp [wr, ints, List.map_set]

theorem sub_small : ∀ s, s < 16 → ∀ b, b < 16 → s ^^^ (s &&& b) ≤ s := by decide +kernel
/-! ### The least blocks, by their parts -/
def chain (b : Nat) : Nat → Nat → List Nat
  | 0, _ => []
  | f + 1, p => if p == 0 then [] else p :: chain b f ((p - 1) &&& b)
theorem chain_all : ∀ b, b < 16 → chain b 16 ((b - 1) &&& b) = ((List.range b).filter fun p => p != 0 && p &&& b == p).reverse := by decide +kernel
theorem chain_short : ∀ b, b < 16 → (chain b 16 ((b - 1) &&& b)).length < 16 := by decide +kernel
theorem chain_in (b : Nat) : ∀ f p, p ≤ b → b < 16 → ∀ q ∈ chain b f p, q < 16 ∧ 0 < q
  | 0, _, _, _, q, h => by cases h
  | f + 1, p, hp, hb, q, h => by
    simp only [chain] at h
    split at h
    · cases h
    · rename_i h0
      rcases List.mem_cons.1 h with rfl | h
      · have : q ≠ 0 := fun e => by subst e; exact h0 rfl
        omega
      · exact chain_in b f _ (Nat.le_trans Nat.and_le_right (Nat.le_refl _)) hb q h
theorem least_parts (g : Nat → Bool) (hg : g 0 = false) (b : Nat) (hb : b < 16) (P : ∀ c, c ≤ b → ∀ m, m ∈ sb g c ↔ m < c ∧ g m = true ∧ ∀ p, 0 < p → p < m → p &&& m = p → g p = false) :
    ((sb g b).all fun m => !(m &&& b == m)) = ((chain b 16 ((b - 1) &&& b)).all fun q => !g q) := by
  rw [chain_all b hb, Bool.eq_iff_iff, List.all_eq_true, List.all_eq_true]
  constructor
  · intro h q hq
    simp only [List.mem_reverse, List.mem_filter, List.mem_range, Bool.and_eq_true, bne_iff_ne, beq_iff_eq] at hq
    obtain ⟨hqb, hq0, hqs⟩ := hq
    have key : ∀ q, q < b → q ≠ 0 → q &&& b = q → g q = false := by
      intro q
      induction q using Nat.strongRecOn with
      | ind q ih =>
        intro h1 h2 h3
        cases hgq : g q with
        | false => rfl
        | true =>
          exfalso
          have hm : q ∈ sb g b := (P b (Nat.le_refl _) q).2 ⟨h1, hgq, fun p hp hpq hps => ih p hpq (by omega) (by omega) (by
            rw [← h3] at hps
            rw [← hps, ← Nat.and_assoc, Nat.and_assoc, Nat.and_assoc, Nat.and_assoc, Nat.and_self])⟩
          have := h q hm
          rw [h3] at this
          simp at this
    rw [key q hqb hq0 hqs]
    rfl
  · intro h m hm
    obtain ⟨h1, h2, -⟩ := (P b (Nat.le_refl _) m).1 hm
    cases hs : m &&& b == m with
    | false => rfl
    | true =>
      exfalso
      have hm0 : m ≠ 0 := fun e => by rw [e, hg] at h2; cases h2
      have := h m (by
        simp only [List.mem_reverse, List.mem_filter, List.mem_range, Bool.and_eq_true, bne_iff_ne, beq_iff_eq]
        exact ⟨h1, hm0, eq_of_beq hs⟩)
      rw [h2] at this
      cases this
theorem sb_mem (g : Nat → Bool) (hg : g 0 = false) : ∀ b, b ≤ 16 → ∀ c, c ≤ b → ∀ m, m ∈ sb g c ↔ m < c ∧ g m = true ∧ ∀ p, 0 < p → p < m → p &&& m = p → g p = false := by
  intro b
  induction b with
  | zero =>
    intro _ c hc m
    obtain rfl : c = 0 := by omega
    simp [sb]
  | succ b ih =>
    intro hb c hc m
    by_cases hcb : c ≤ b
    · exact ih (by omega) c hcb m
    · obtain rfl : c = b + 1 := by omega
      have hP := ih (by omega)
      have hl := least_parts g hg b (by omega) hP
      rw [chain_all b (by omega)] at hl
      have hall : ((sb g b).all fun m => !(m &&& b == m)) = true ↔ ∀ p, 0 < p → p < b → p &&& b = p → g p = false := by
        rw [hl, List.all_eq_true]
        constructor
        · intro h p h1 h2 h3
          have := h p (by
            simp only [List.mem_reverse, List.mem_filter, List.mem_range, Bool.and_eq_true, bne_iff_ne, beq_iff_eq]
            exact ⟨h2, by omega, h3⟩)
          simpa using this
        · intro h q hq
          simp only [List.mem_reverse, List.mem_filter, List.mem_range, Bool.and_eq_true, bne_iff_ne, beq_iff_eq] at hq
          rw [h q (by omega) hq.1 hq.2.2]
          rfl
      simp only [sb]
      by_cases hcnd : (g b && (sb g b).all fun m => !(m &&& b == m)) = true
      · rw [if_pos hcnd]
        simp only [Bool.and_eq_true] at hcnd
        rw [List.mem_append, hP b (Nat.le_refl _) m, List.mem_singleton]
        constructor
        · rintro (h | rfl)
          · exact ⟨by omega, h.2⟩
          · exact ⟨by omega, hcnd.1, hall.1 hcnd.2⟩
        · rintro ⟨h1, h2⟩
          by_cases e : m = b
          · exact .inr e
          · exact .inl ⟨by omega, h2⟩
      · rw [if_neg hcnd, hP b (Nat.le_refl _) m]
        constructor
        · rintro ⟨h1, h2⟩
          exact ⟨by omega, h2⟩
        · rintro ⟨h1, h2, h3⟩
          by_cases e : m = b
          · subst e
            refine absurd ?_ hcnd
            rw [h2, Bool.true_and]
            exact hall.2 h3
          · exact ⟨by omega, h2, h3⟩
/-- That both ways to count agree, for all lists of least blocks. -/
def okL (n : Nat) (l : List Nat) : Bool := (dpTo l (2 ^ n) (2 ^ n)).getD (2 ^ n - 1) 0 == pk l 0
def chk (n : Nat) : Nat → Nat → List Nat → Bool
  | 0, _, l => okL n l
  | f + 1, b, l => if l.any (fun m => m &&& b == m) then chk n f (b + 1) l else chk n f (b + 1) l && chk n f (b + 1) (l ++ [b])
theorem chk_ok : ∀ n, n ≤ 4 → chk n (2 ^ n - 1) 1 [] = true := by decide +kernel
theorem chk_sb (n : Nat) (g : Nat → Bool) : ∀ f b, chk n f b (sb g b) = true → okL n (sb g (b + f)) = true
  | 0, b, h => h
  | f + 1, b, h => by
    rw [show b + (f + 1) = (b + 1) + f by omega]
    refine chk_sb n g f (b + 1) ?_
    simp only [chk] at h
    have hall : ((sb g b).all fun m => !(m &&& b == m)) = !(sb g b).any (fun m => m &&& b == m) := by
      rw [List.not_any_eq_all_not]
    simp only [sb]
    rw [hall]
    cases ha : (sb g b).any (fun m => m &&& b == m) with
    | true =>
      rw [ha, if_pos rfl] at h
      simpa using h
    | false =>
      rw [ha, if_neg (by decide)] at h
      simp only [Bool.and_eq_true] at h
      cases g b
      · simpa using h.1
      · simpa using h.2
/-- Block sensitivity at an input. -/
def bs (w n x : Nat) : Nat := pk (sb (ch w x) (2 ^ n)) 0
theorem bs_le (w n x : Nat) (hn : n ≤ 4) : bs w n x ≤ 16 := by
  have h1 := pk_le (sb (ch w x) (2 ^ n)) 0
  have h2 := sb_len (ch w x) (2 ^ n)
  have h3 := size4 hn
  unfold bs
  omega
theorem sb16 (w n x : Nat) (hn : n ≤ 4) : (∀ m ∈ sb (ch w x) (2 ^ n), m < 16) ∧ (sb (ch w x) (2 ^ n)).length ≤ 16 := by
  have h3 := size4 hn
  exact ⟨fun m hm => by have := sb_lt _ _ m hm; omega, by have := sb_len (ch w x) (2 ^ n); omega⟩
/-- The block sensitivity of a table. -/
def bsOf (w n : Nat) : Nat := mx (bs w n) (2 ^ n)
theorem bsOf_le (w n : Nat) (hn : n ≤ 4) : bsOf w n ≤ 16 := mx_le _ _ _ fun x _ => bs_le w n x hn
end Go.Proofs.Ytfdggelojmofmaa
namespace Go.Proofs.Ytfdggelojmofmaa
open Go.Rv
set_option linter.unusedVariables false
variable {β : Type}
theorem sc_iff (w m v : Nat) (b : Bool) : ∀ X, sc w m v b X = true ↔ ∃ x, x < X ∧ x &&& m = v ∧ w.testBit x = b
  | 0 => by simp [sc]
  | X + 1 => by
    simp only [sc, Bool.or_eq_true, Bool.and_eq_true, beq_iff_eq, sc_iff w m v b X]
    constructor
    · rintro (⟨x, h1, h2⟩ | h)
      · exact ⟨x, by omega, h2⟩
      · exact ⟨X, by omega, h⟩
    · rintro ⟨x, h1, h2⟩
      by_cases e : x = X
      · subst e; exact .inr h2
      · exact .inl ⟨x, by omega, h2⟩

/-- The least of some numbers, of those that are free. -/
def mnO (B : Nat) (free : Nat → Bool) (val : Nat → Nat) : Nat → Nat
  | 0 => B
  | i + 1 => if free i then min (mnO B free val i) (val i) else mnO B free val i
theorem mnO_le (B : Nat) (free : Nat → Bool) (val : Nat → Nat) : ∀ n i, i < n → free i = true → mnO B free val n ≤ val i
  | n + 1, i, h, hf => by
    simp only [mnO]
    by_cases e : i = n
    · subst e
      rw [hf, if_pos rfl]
      exact Nat.min_le_right _ _
    · have := mnO_le B free val n i (by omega) hf
      split <;> omega
theorem mnO_B (B : Nat) (free : Nat → Bool) (val : Nat → Nat) : ∀ n, mnO B free val n ≤ B
  | 0 => Nat.le_refl _
  | n + 1 => by
    have := mnO_B B free val n
    simp only [mnO]
    split <;> omega
theorem mnO_start (B C : Nat) (hBC : B ≤ C) (free : Nat → Bool) (val : Nat → Nat) : ∀ n, mnO B free val n = min B (mnO C free val n)
  | 0 => by simp only [mnO]; omega
  | n + 1 => by
    have := mnO_start B C hBC free val n
    simp only [mnO]
    split <;> omega
theorem mnO_congr {B : Nat} {free : Nat → Bool} {val val' : Nat → Nat} : ∀ {n : Nat}, (∀ i, i < n → free i = true → val i = val' i) → mnO B free val n = mnO B free val' n
  | 0, _ => rfl
  | n + 1, h => by
    simp only [mnO]
    rw [mnO_congr fun i hi hf => h i (by omega) hf]
    cases hf : free n with
    | true => rw [h n (by omega) hf]
    | false => rfl

def free (m i : Nat) : Bool := !m.testBit i
def fc (n m : Nat) : Nat := cnt (free m) n
theorem fc_less : ∀ n, n ≤ 4 → ∀ m, m < 2 ^ n → ∀ i, i < n → free m i = true → fc n (m ||| 2 ^ i) + 1 = fc n m := by decide +kernel
theorem fc_none : ∀ n, n ≤ 4 → ∀ m, m < 2 ^ n → fc n m = 0 → ∀ x, x < 2 ^ n → x &&& m = x := by decide +kernel
theorem fc_some : ∀ n, n ≤ 4 → ∀ m, m < 2 ^ n → fc n m ≠ 0 → ∃ i, i < n ∧ free m i = true := by
  intro n hn m hm h
  have key : ∀ k, cnt (free m) k ≠ 0 → ∃ i, i < k ∧ free m i = true := by
    intro k
    induction k with
    | zero => intro h; exact absurd rfl h
    | succ k ih =>
      intro h
      cases hf : free m k with
      | true => exact ⟨k, by omega, hf⟩
      | false =>
        simp only [cnt, hf] at h
        obtain ⟨i, hi, hfi⟩ := ih (by simpa using h)
        exact ⟨i, by omega, hfi⟩
  exact key n h
theorem or_lt : ∀ n, n ≤ 4 → ∀ m, m < 2 ^ n → ∀ i, i < n → m ||| 2 ^ i < 2 ^ n := by decide +kernel
theorem bothV_free (w n m v : Nat) (hn : n ≤ 4) (hm : m < 2 ^ n) (h : bothV w n m v = true) : fc n m ≠ 0 := by
  intro h0
  unfold bothV at h
  simp only [Bool.and_eq_true, sc_iff] at h
  obtain ⟨⟨x, hx, hxv, hbx⟩, y, hy, hyv, hby⟩ := h
  rw [fc_none n hn m hm h0 x hx] at hxv
  rw [fc_none n hn m hm h0 y hy] at hyv
  rw [hxv] at hbx
  rw [hyv, hbx] at hby
  cases hby

/-- The least depth, for what is known, by steps. -/
def ld (w n : Nat) : Nat → Nat → Nat → Nat
  | 0, _, _ => 0
  | f + 1, m, v => if bothV w n m v then mnO 10 (free m) (fun i => 1 + max (ld w n f (m ||| 2 ^ i) v) (ld w n f (m ||| 2 ^ i) (v ||| 2 ^ i))) n else 0
def dep_ (w n m v : Nat) : Nat := ld w n (fc n m + 1) m v
theorem ld_le (w n : Nat) (hn : n ≤ 4) : ∀ f m v, m < 2 ^ n → ld w n f m v ≤ fc n m
  | 0, m, v, _ => Nat.zero_le _
  | f + 1, m, v, hm => by
    simp only [ld]
    cases hx : bothV w n m v with
    | false => rw [if_neg (by decide)]; exact Nat.zero_le _
    | true =>
      rw [if_pos rfl]
      obtain ⟨i, hi, hf⟩ := fc_some n hn m hm (bothV_free w n m v hn hm hx)
      have h1 := mnO_le 10 (free m) (fun i => 1 + max (ld w n f (m ||| 2 ^ i) v) (ld w n f (m ||| 2 ^ i) (v ||| 2 ^ i))) n i hi hf
      have h2 := ld_le w n hn f (m ||| 2 ^ i) v (or_lt n hn m hm i hi)
      have h3 := ld_le w n hn f (m ||| 2 ^ i) (v ||| 2 ^ i) (or_lt n hn m hm i hi)
      have h4 := fc_less n hn m hm i hi hf
      have h1 : mnO 10 (free m) (fun i => 1 + max (ld w n f (m ||| 2 ^ i) v) (ld w n f (m ||| 2 ^ i) (v ||| 2 ^ i))) n ≤ 1 + max (ld w n f (m ||| 2 ^ i) v) (ld w n f (m ||| 2 ^ i) (v ||| 2 ^ i)) := h1
      omega
theorem ld_fuel (w n : Nat) (hn : n ≤ 4) : ∀ f m v, m < 2 ^ n → fc n m < f → ld w n f m v = dep_ w n m v
  | 0, m, v, _, h => by omega
  | f + 1, m, v, hm, h => by
    simp only [dep_, ld]
    cases hx : bothV w n m v with
    | false => rfl
    | true =>
      rw [if_pos rfl, if_pos rfl]
      refine mnO_congr fun i hi hf => ?_
      have h4 := fc_less n hn m hm i hi hf
      have hlt := or_lt n hn m hm i hi
      rw [ld_fuel w n hn f _ v hlt (by omega), ld_fuel w n hn f _ _ hlt (by omega)]
      unfold dep_
      rw [h4]
theorem dep_eq (w n m v : Nat) (hn : n ≤ 4) (hm : m < 2 ^ n) : dep_ w n m v = if bothV w n m v then mnO 10 (free m) (fun i => 1 + max (dep_ w n (m ||| 2 ^ i) v) (dep_ w n (m ||| 2 ^ i) (v ||| 2 ^ i))) n else 0 := by
  have : dep_ w n m v = ld w n (fc n m + 1) m v := rfl
  rw [this]
  simp only [ld]
  cases hx : bothV w n m v with
  | false => rfl
  | true =>
    rw [if_pos rfl, if_pos rfl]
    refine mnO_congr fun i hi hf => ?_
    have h4 := fc_less n hn m hm i hi hf
    have hlt := or_lt n hn m hm i hi
    rw [ld_fuel w n hn _ _ v hlt (by omega), ld_fuel w n hn _ _ _ hlt (by omega)]
theorem dep_le (w n m v : Nat) (hn : n ≤ 4) (hm : m < 2 ^ n) : dep_ w n m v ≤ fc n m := ld_le w n hn _ m v hm
theorem fc_le (n m : Nat) : fc n m ≤ n := cnt_le _ n

theorem and_bit : ∀ m, m < 16 → ∀ i, i < 4 → (m &&& 2 ^ i == 0) = free m i := by decide +kernel
theorem nat_eq_zero (a : Nat) : ((a : Int) == 0) = (a == 0) := by cases a <;> rfl
theorem cres_bothV (w n m v : Nat) : decide (cres (sc w m v false (2 ^ n)) (sc w m v true (2 ^ n)) < 2) = !bothV w n m v := by
  unfold bothV
  cases sc w m v false (2 ^ n) <;> cases sc w m v true (2 ^ n) <;> rfl

/-- What is remembered is right. -/
def Mem (w n : Nat) (mp : Mp) : Prop := ∀ m v : Nat, hasM ⟨true, false⟩ mp (m : Int) (v : Int) = true → getM ⟨true, false⟩ mp (m : Int) (v : Int) = (dep_ w n m v : Int)
theorem eqK_two (p : Int × Int) (a b : Int) : eqK ⟨true, false⟩ p a b = (p.1 == a && p.2 == b) := by simp [eqK]
theorem has_put (mp : Mp) (a b x c d : Int) : hasM ⟨true, false⟩ (putM ⟨true, false⟩ mp a b x) c d = ((a == c && b == d) || hasM ⟨true, false⟩ mp c d) := by
  induction mp with
  | nil => simp [putM, hasM, eqK_two]
  | cons p l ih =>
    simp only [putM]
    cases he : eqK ⟨true, false⟩ p.1 a b with
    | true =>
      rw [cond_true]
      simp only [hasM]
      rw [eqK_two] at he ⊢
      simp only [Bool.and_eq_true, beq_iff_eq] at he
      rw [eqK_two, he.1, he.2]
      cases (a == c && b == d) <;> simp
    | false =>
      rw [cond_false]
      simp only [hasM, ih]
      rw [Bool.or_left_comm]
theorem get_put (mp : Mp) (a b x c d : Int) : getM ⟨true, false⟩ (putM ⟨true, false⟩ mp a b x) c d = if (a == c && b == d) then x else getM ⟨true, false⟩ mp c d := by
  induction mp with
  | nil =>
    simp only [putM, getM, eqK_two]
    cases (a == c && b == d) <;> rfl
  | cons p l ih =>
    simp only [putM]
    cases he : eqK ⟨true, false⟩ p.1 a b with
    | true =>
      rw [cond_true]
      simp only [getM]
      rw [eqK_two] at he ⊢
      simp only [Bool.and_eq_true, beq_iff_eq] at he
      rw [eqK_two, he.1, he.2]
      cases (a == c && b == d) <;> simp
    | false =>
      rw [cond_false]
      simp only [getM, ih]
      cases hp : eqK ⟨true, false⟩ p.1 c d with
      | false => rfl
      | true =>
        rw [cond_true]
        cases hc : (a == c && b == d) with
        | false => rfl
        | true =>
          exfalso
          rw [eqK_two] at hp he
          simp only [Bool.and_eq_true, beq_iff_eq] at hp hc
          rw [hp.1, hp.2, hc.1, hc.2] at he
          simp at he
theorem Mem.put {w n : Nat} {mp : Mp} (h : Mem w n mp) (m v : Nat) {x : Int} (hx : x = (dep_ w n m v : Int)) : Mem w n (putM ⟨true, false⟩ mp (m : Int) (v : Int) x) := by
  intro m' v' hh
  rw [get_put]
  rw [has_put] at hh
  cases he : (((m : Int) == (m' : Int)) && ((v : Int) == (v' : Int))) with
  | true =>
    rw [if_pos rfl, hx]
    simp only [Bool.and_eq_true, beq_iff_eq] at he
    rw [show m = m' by omega, show v = v' by omega]
  | false =>
    rw [he, Bool.false_or] at hh
    rw [if_neg (by decide)]
    exact h m' v' hh

theorem shl_zero (i : Nat) : shlI .i64 0 (i : Int) = 0 := by
  unfold shlI
  rw [Int.zero_mul]
  decide
theorem or_zero_int (v : Nat) (hv : v < 16) : bits .or .i64 (v : Int) 0 = (v : Int) := by
  have := bOr v 0 (by omega) (by omega)
  simpa using this
/-- The least depth of a table. -/
def depth (w n : Nat) : Nat := dep_ w n 0 0
theorem depth_le (w n : Nat) (hn : n ≤ 4) : depth w n ≤ n := Nat.le_trans (dep_le w n 0 0 hn (Nat.two_pow_pos n)) (fc_le n 0)
end Go.Proofs.Ytfdggelojmofmaa
