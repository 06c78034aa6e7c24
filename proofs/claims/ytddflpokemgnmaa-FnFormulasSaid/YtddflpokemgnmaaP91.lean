/- Plain laws of the texts. -/
import Derived.Test.YtddflpokemgnmaaT0
import Derived.Test.YtddflpokemgnmaaRvNum
namespace Go.Proofs.Ytddflpokemgnmaa
open Go.Rv

variable {β : Type}
end Go.Proofs.Ytddflpokemgnmaa
namespace Go.Proofs.Ytddflpokemgnmaa
open Go.Rv
variable {β : Type}

end Go.Proofs.Ytddflpokemgnmaa
namespace Go.Proofs.Ytddflpokemgnmaa
open Go.Rv
set_option linter.unusedVariables false
variable {β : Type}
/-- A table's word, input by input. -/
def tabw (g : Nat → Bool) : Nat → Nat
  | 0 => 0
  | i + 1 => tabw g i ||| (if g i then 2 ^ i else 0)
theorem tabw_lt (g : Nat → Bool) : ∀ i, tabw g i < 2 ^ i
  | 0 => by simp [tabw]
  | i + 1 => by
    have := tabw_lt g i
    unfold tabw
    have h2 : 2 ^ (i + 1) = 2 ^ i + 2 ^ i := by rw [Nat.pow_succ]; omega
    refine Nat.or_lt_two_pow (by omega) ?_
    split
    · have := Nat.two_pow_pos i; omega
    · exact Nat.two_pow_pos _
theorem tabw_congr {g h : Nat → Bool} : ∀ {n : Nat}, (∀ i, i < n → g i = h i) → tabw g n = tabw h n
  | 0, _ => rfl
  | n + 1, e => by
    unfold tabw
    rw [tabw_congr (n := n) fun i hi => e i (by omega), e n (by omega)]

theorem pow_le_64 {n : Nat} (h : n ≤ 62) : 2 ^ n < 9223372036854775808 := Nat.lt_of_le_of_lt (Nat.pow_le_pow_right (by decide) h) (by decide)
theorem size_le {n : Nat} (h : n ≤ 5) : 2 ^ n ≤ 32 := Nat.le_trans (Nat.pow_le_pow_right (by decide) h) (by decide)

theorem shl_one (n : Nat) (h : n ≤ 62) : shlI .i64 1 (n : Int) = ((2 ^ n : Nat) : Int) := by
  have := shl_nat 1 n (by omega) (by rw [Nat.one_mul]; exact pow_le_64 h)
  rw [Nat.one_mul] at this
  exact this

theorem makeTable_loop (N : Nat) (h : Int → (Bool → Option β) → Option β) (g : Nat → Bool) (m : Nat) (hm : m ≤ 32) (hh : ∀ (x : Nat) k, x < m → h (x : Int) k = k (g x)) (k0 : Int → Int → Int → Int → Option β) (a b n : Int) :
    ∀ (F i : Nat), m - i < F → i ≤ m → impl_makeTable_l0 N h F (m : Int) (i : Int) a b n (tabw g i : Int) k0 = k0 a b n (tabw g m : Int) := by
  intro F
  induction F with
  | zero => intro i hF; omega
  | succ F ih =>
    intro i hF hi
    simp only [impl_makeTable_l0, impl_makeTable_l0b]
    by_cases hlt : i < m
    · rw [decide_eq_true (by omega : (i : Int) < (m : Int))]
      simp only [cond_true, hh i _ hlt]
      have h1 := ih (i + 1) (by omega) (by omega)
      rw [w64_succ i (by omega)]
      have hw : tabw g i < 2 ^ 63 := Nat.lt_of_lt_of_le (tabw_lt g i) (Nat.pow_le_pow_right (by decide) (by omega))
      cases hg : g i with
      | true =>
        have e : tabw g (i + 1) = tabw g i ||| 2 ^ i := by simp [tabw, hg]
        rw [e] at h1
        simp only [cond_true, gd_true (decide_eq_true (by omega : 0 ≤ (i : Int)))]
        rw [shl_one i (by omega), bOr _ _ hw (Nat.pow_lt_pow_right (by decide) (by omega))]
        exact h1
      | false =>
        have e : tabw g (i + 1) = tabw g i := by simp [tabw, hg]
        rw [e] at h1
        exact h1
    · have : i = m := by omega
      subst this
      rw [decide_eq_false (by omega : ¬ (i : Int) < (i : Int))]
      rfl

theorem makeTable_eq (N : Nat) (hN : 64 < N) (n : Nat) (hn : n ≤ 5) (h : Int → (Bool → Option β) → Option β) (g : Nat → Bool) (hh : ∀ (x : Nat) k, x < 2 ^ n → h (x : Int) k = k (g x)) (k : Int → Int → Option β) :
    impl_makeTable N (n : Int) h k = k n (tabw g (2 ^ n) : Int) := by
  unfold impl_makeTable
  rw [gd_true (decide_eq_true (by omega)), shl_one n (by omega)]
  have := size_le hn
  exact makeTable_loop N h g (2 ^ n) this hh (fun _ _ e2 e3 => k e2 e3) 0 0 n N 0 (by omega) (Nat.zero_le _)

def ys (x i b : Nat) : Nat := x - (x &&& 2 ^ i) + b * 2 ^ i
/-- A bit of a word, as the program takes it. -/
theorem bit_at (w y : Nat) (hw : w < 9223372036854775808) : bits .and .i64 (shrI .i64 (w : Int) (y : Int)) 1 = ((if w.testBit y then 1 else 0 : Nat) : Int) := by
  rw [shr_nat w y hw]
  have h1 : w / 2 ^ y < 2 ^ 63 := Nat.lt_of_le_of_lt (Nat.div_le_self _ _) hw
  have := bAnd (w / 2 ^ y) 1 h1 (by decide)
  rw [show ((1 : Nat) : Int) = 1 from rfl] at this
  rw [this, Nat.and_one_is_mod]
  congr 1
  rw [Nat.testBit, Nat.shiftRight_eq_div_pow, Nat.and_comm, Nat.and_one_is_mod]
  have := Nat.mod_two_eq_zero_or_one (w / 2 ^ y)
  rcases this with h | h <;> simp [h]

/-- What a table is. -/
def isT (a0 a1 : Int) : Bool := decide (0 ≤ a0) && decide (a0 ≤ 5) && decide (0 ≤ a1) && decide (a1 < 2 ^ 2 ^ a0.toNat)

theorem shl_u64 : ∀ n : Nat, n ≤ 5 → shlI .u64 1 (n : Int) = ((2 ^ n : Nat) : Int) := by decide +kernel

theorem spec_IsTable_eq (N : Nat) (a0 a1 : Int) (k : Bool → Option β) : spec_IsTable N a0 a1 k = k (isT a0 a1) := by
  unfold spec_IsTable spec_l1In
  by_cases h0 : 0 ≤ a0
  · rw [decide_eq_true (by omega : a0 ≥ 0)]
    simp only [cond_true]
    by_cases h5 : a0 ≤ 5
    · rw [decide_eq_true h5]
      obtain ⟨n, rfl⟩ := Int.eq_ofNat_of_zero_le h0
      have hn : n ≤ 5 := by omega
      have hs := size_le hn
      have hp := pow_le_64 (n := 2 ^ n) (by omega)
      have hpos := Nat.two_pow_pos (2 ^ n)
      simp only [cond_true]
      rw [gd_true rfl, shl_u64 n hn, gd_true (decide_eq_true (Int.natCast_nonneg _)), shl_one (2 ^ n) (by omega), w64_id (by omega) (by omega)]
      have e : isT (n : Int) a1 = (decide (0 ≤ a1) && decide (a1 < ((2 ^ 2 ^ n : Nat) : Int))) := by
        simp only [isT, Int.toNat_natCast, decide_eq_true (by omega : 0 ≤ (n : Int)), decide_eq_true (by omega : (n : Int) ≤ 5), Bool.true_and]
        push_cast
        rfl
      rw [e]
      by_cases h1 : 0 ≤ a1
      · rw [decide_eq_true (by omega : a1 ≥ 0)]
        simp only [cond_true, Bool.true_and]
        congr 1
        exact decide_eq_decide.2 (by omega)
      · rw [decide_eq_false (by omega : ¬ a1 ≥ 0)]; rfl
    · rw [decide_eq_false h5]
      simp [isT, h5]
  · rw [decide_eq_false (by omega : ¬ a0 ≥ 0)]
    simp [isT, h0]

theorem impl_IsTable_eq (N : Nat) (a0 a1 : Int) (h : a1 < 9223372036854775808) (k : Bool → Option β) : impl_IsTable N a0 a1 k = k (isT a0 a1) := by
  unfold impl_IsTable impl_isBits impl_Table_size
  by_cases h0 : 0 ≤ a0
  · rw [decide_eq_true (by omega : a0 ≥ 0)]
    simp only [cond_true]
    by_cases h5 : a0 ≤ 5
    · rw [decide_eq_true h5]
      obtain ⟨n, rfl⟩ := Int.eq_ofNat_of_zero_le h0
      have hn : n ≤ 5 := by omega
      have hs := size_le hn
      have hpos := Nat.two_pow_pos (2 ^ n)
      simp only [cond_true]
      rw [gd_true rfl]
      have e : isT (n : Int) a1 = (decide (0 ≤ a1) && decide (a1 < ((2 ^ 2 ^ n : Nat) : Int))) := by
        simp only [isT, Int.toNat_natCast, decide_eq_true (by omega : 0 ≤ (n : Int)), decide_eq_true (by omega : (n : Int) ≤ 5), Bool.true_and]
        push_cast
        rfl
      rw [e]
      by_cases h1 : 0 ≤ a1
      · obtain ⟨w, rfl⟩ := Int.eq_ofNat_of_zero_le h1
        rw [decide_eq_true (by omega : (w : Int) ≥ 0), shl_one n (by omega)]
        simp only [cond_true, Bool.true_and]
        rw [gd_true (decide_eq_true (Int.natCast_nonneg _)), shr_nat w (2 ^ n) (by omega)]
        congr 1
        have : w / 2 ^ 2 ^ n = 0 ↔ w < 2 ^ 2 ^ n := by
          rw [Nat.div_eq_zero_iff]
          omega
        by_cases hw : w < 2 ^ 2 ^ n
        · rw [this.2 hw, decide_eq_true (by omega)]; rfl
        · rw [decide_eq_false (by omega)]
          have : ¬ w / 2 ^ 2 ^ n = 0 := fun h => hw (this.1 h)
          simp only [beq_eq_false_iff_ne, ne_eq]
          omega
      · rw [decide_eq_false (by omega : ¬ a1 ≥ 0)]; rfl
    · rw [decide_eq_false h5]
      simp [isT, h5]
  · rw [decide_eq_false (by omega : ¬ a0 ≥ 0)]
    simp [isT, h0]
end Go.Proofs.Ytddflpokemgnmaa
namespace Go.Proofs.Ytddflpokemgnmaa
open Go.Rv
set_option linter.unusedVariables false
variable {β : Type}
theorem tabw_bit (g : Nat → Bool) : ∀ (n x : Nat), (tabw g n).testBit x = (decide (x < n) && g x)
  | 0, x => by simp [tabw]
  | n + 1, x => by
    unfold tabw
    rw [Nat.testBit_or, tabw_bit g n x]
    by_cases hx : x = n
    · subst hx
      cases hg : g x <;> simp [Nat.testBit_two_pow_self]
    · have h1 : (if g n then 2 ^ n else 0 : Nat).testBit x = false := by
        split
        · exact Nat.testBit_two_pow_of_ne (Ne.symm hx)
        · exact Nat.zero_testBit _
      rw [h1, Bool.or_false]
      congr 1
      exact decide_eq_decide.2 (by omega)

/-- A bit put in between. -/
def ins (x i b : Nat) : Nat := (x / 2 ^ i) * 2 ^ (i + 1) ||| b * 2 ^ i ||| (x &&& (2 ^ i - 1))
/-- Whether a word depends on an input. -/
def dep (w n i : Nat) : Bool := tabw (fun x => w.testBit (ins x i 0)) (2 ^ (n - 1)) != tabw (fun x => w.testBit (ins x i 1)) (2 ^ (n - 1))

/-- The inputs that a word depends on. -/
def vars (w n m : Nat) : List Int := ((List.range m).filter fun i => dep w n i).map Int.ofNat
theorem vars_len (w n m : Nat) : (vars w n m).length ≤ m := by
  unfold vars
  rw [List.length_map]
  exact Nat.le_trans (List.length_filter_le _ _) (by simp)
theorem vars_succ (w n m : Nat) : vars w n (m + 1) = if dep w n m then vars w n m ++ [(m : Int)] else vars w n m := by
  unfold vars
  rw [List.range_succ, List.filter_append, List.map_append]
  cases h : dep w n m <;> simp [h]
end Go.Proofs.Ytddflpokemgnmaa
namespace Go.Proofs.Ytddflpokemgnmaa
open Go.Rv
set_option linter.unusedVariables false
variable {β : Type}
end Go.Proofs.Ytddflpokemgnmaa
namespace Go.Proofs.Ytddflpokemgnmaa
open Go.Rv
set_option linter.unusedVariables false
variable {β : Type}
theorem spec_l1In_eq (N : Nat) (a b c : Int) (k : Bool → Option β) : spec_l1In N a b c k = k (decide (b ≤ a) && decide (a ≤ c)) := by
  unfold spec_l1In
  by_cases h : b ≤ a
  · rw [decide_eq_true (by omega : a ≥ b)]; rfl
  · rw [decide_eq_false (by omega : ¬ a ≥ b)]; rfl
/-- A set with more numbers. -/
def addAll (s : Nat) (l : List Int) : Nat := l.foldl (fun s x => s ||| 2 ^ x.toNat) s

end Go.Proofs.Ytddflpokemgnmaa
namespace Go.Proofs.Ytddflpokemgnmaa
open Go.Rv
set_option linter.unusedVariables false
variable {β : Type}
/-- How many ones a number has, of at most so many bits. -/
def pc : Nat → Nat → Nat
  | 0, _ => 0
  | f + 1, w => w % 2 + pc f (w / 2)
/-- The ones of a word. -/
def ones (w : Nat) : Nat := pc 32 w
def q1 (c : Nat) : Nat := (c / 2 &&& 85) + (c &&& 85)
def q2 (c : Nat) : Nat := (c / 4 &&& 51) + (c &&& 51)
def q3 (c : Nat) : Nat := (c / 16 + c) &&& 15
def g1 (a : Int) : Int := wu64 (bits .and .u64 (shrI .u64 a 1) 6148914691236517205 + bits .and .u64 a 6148914691236517205)
def g2 (a : Int) : Int := wu64 (bits .and .u64 (shrI .u64 a 2) 3689348814741910323 + bits .and .u64 a 3689348814741910323)
def g3 (a : Int) : Int := bits .and .u64 (wu64 (shrI .u64 a 4 + a)) 1085102592571150095
end Go.Proofs.Ytddflpokemgnmaa
namespace Go.Proofs.Ytddflpokemgnmaa
open Go.Rv

variable {β : Type}
theorem and_mask (x : Int) (m : Nat) (hm : m < 9223372036854775808) : ∃ r : Nat, bits .and .i64 x (m : Int) = r ∧ r ≤ m := by
  refine ⟨((BitVec.ofInt 64 x) &&& (BitVec.ofInt 64 (m : Int))).toNat, ?_, ?_⟩
  · have h : ((BitVec.ofInt 64 x) &&& (BitVec.ofInt 64 (m : Int))).toNat ≤ m := by
      rw [BitVec.toNat_and, BitVec.ofInt_natCast, BitVec.toNat_ofNat, Nat.mod_eq_of_lt (by omega : m < 2 ^ 64)]
      exact Nat.and_le_right
    have h63 : (2 : Int) ^ 63 = 9223372036854775808 := by decide
    have key : ∀ r : Nat, r ≤ m → IntKind.i64.wrap (r : Int) = r := fun r hr => wrap_small _ (by omega) (by omega)
    exact key _ h
  · rw [BitVec.toNat_and, BitVec.ofInt_natCast, BitVec.toNat_ofNat, Nat.mod_eq_of_lt (by omega : m < 2 ^ 64)]
    exact Nat.and_le_right

theorem l1Byte_ends (N : Nat) (b : List Int) (i h : Int) (h0 : 0 ≤ i) (hb : b.length ≤ 9223372036854775807) :
    ∃ (r : Nat) (i' h' : Int), r ≤ 255 ∧ 0 ≤ i' ∧ ∀ k0 : Int → List Int → Int → Int → Option β, spec_l1Byte_g0 N b i h k0 = k0 r b i' h' := by
  unfold spec_l1Byte_g0
  by_cases hi : i < (b.length : Int)
  · obtain ⟨r, h1, h2⟩ := and_mask (w64 ((bits .and .i64 (bits .xor .i64 (shrI .i64 (w64 ((w64 (h * 6364136223846793005)) + 1442695040888963407)) 33) (shrI .i64 (w64 ((w64 (h * 6364136223846793005)) + 1442695040888963407)) 45)) 255) + (w64 ((rd 0 b i))))) 255 (by decide)
    refine ⟨r, w64 (i + 1), w64 ((w64 (h * 6364136223846793005)) + 1442695040888963407), h2, ?_, fun k0 => ?_⟩
    · rw [w64_id] <;> omega
    · rw [decide_eq_true hi, cond_true, decide_eq_true h0, gd_true rfl, gd_true rfl, ← h1]
      rfl
  · obtain ⟨r, h1, h2⟩ := and_mask (bits .xor .i64 (shrI .i64 (w64 ((w64 (h * 6364136223846793005)) + 1442695040888963407)) 33) (shrI .i64 (w64 ((w64 (h * 6364136223846793005)) + 1442695040888963407)) 45)) 255 (by decide)
    refine ⟨r, i, w64 ((w64 (h * 6364136223846793005)) + 1442695040888963407), h2, h0, fun k0 => ?_⟩
    rw [decide_eq_false hi, cond_false, ← h1]
    rfl

theorem l1Below_ends (N : Nat) (n : Int) (b : List Int) (i h : Int) (hn : n ≤ 256) (h0 : 0 ≤ i) (hb : b.length ≤ 9223372036854775807) :
    ∃ (r : Nat) (i' h' : Int), (0 < n → (r : Int) < n) ∧ (n ≤ 0 → r = 0) ∧ 0 ≤ i' ∧ ∀ k0 : Int → List Int → Int → Int → Option β, spec_l1Below_g0 N n b i h k0 = k0 r b i' h' := by
  unfold spec_l1Below_g0
  by_cases hp : n ≤ 0
  · exact ⟨0, i, h, fun h => by omega, fun _ => rfl, h0, fun k0 => by rw [decide_eq_true hp, cond_true]; rfl⟩
  · obtain ⟨r, i', h', h1, h2, h3⟩ := l1Byte_ends (β := β) N b i h h0 hb
    obtain ⟨m, rfl⟩ := Int.eq_ofNat_of_zero_le (by omega : 0 ≤ n)
    have hm : 0 < m := by omega
    refine ⟨r % m, i', h', fun _ => by have := Nat.mod_lt r hm; omega, fun h => by omega, h2, fun k0 => ?_⟩
    rw [decide_eq_false hp, cond_false, decide_eq_true hn, cond_true, h3]
    have hne : ((m : Int) != 0) = true := by simp; omega
    rw [hne, gd_true rfl]
    have : remI (r : Int) (m : Int) = ((r % m : Nat) : Int) := by
      unfold remI
      rw [Int.natCast_emod]
      exact Int.tmod_eq_emod_of_nonneg (Int.natCast_nonneg r)
    rw [this]

theorem l1New_loop (N : Nat) (b : List Int) (hb : b.length ≤ 9223372036854775807) : ∀ (d F i : Nat) (h : Int), i + d = min b.length 4000 → d < F →
    ∃ h', ∀ k0 : List Int → Int → Option β, spec_l1New_l0 N F b h (i : Int) k0 = k0 b h' := by
  intro d
  induction d with
  | zero =>
    intro F i h hd hF
    obtain ⟨F, rfl⟩ : ∃ F', F = F' + 1 := ⟨F - 1, by omega⟩
    refine ⟨h, fun k0 => ?_⟩
    show spec_l1New_l0b N b h (i : Int) _ k0 = _
    unfold spec_l1New_l0b
    by_cases hi : (i : Int) < (b.length : Int)
    · rw [decide_eq_true hi, cond_true, decide_eq_false (by omega : ¬ (i : Int) < 4000), cond_false]
    · rw [decide_eq_false hi, cond_false]
  | succ d ih =>
    intro F i h hd hF
    obtain ⟨F, rfl⟩ : ∃ F', F = F' + 1 := ⟨F - 1, by omega⟩
    obtain ⟨h', h1⟩ := ih F (i + 1) (bits .and .i64 (w64 ((w64 ((w64 (h * 131)) + (w64 ((rd 0 b (i : Int)))))) + 7)) 1073741823) (by omega) (by omega)
    refine ⟨h', fun k0 => ?_⟩
    show spec_l1New_l0b N b h (i : Int) _ k0 = _
    unfold spec_l1New_l0b
    rw [decide_eq_true (by omega : (i : Int) < (b.length : Int)), cond_true, decide_eq_true (by omega : (i : Int) < 4000), cond_true, decide_eq_true (by omega : (0 : Int) ≤ (i : Int)), gd_true rfl, gd_true rfl, w64_succ i (by omega)]
    exact h1 k0
theorem l1New_ends (N : Nat) (hN : 4096 < N) (b : List Int) (hb : b.length ≤ 9223372036854775807) :
    ∃ h' : Int, ∀ k0 : List Int → Int → Int → Option β, spec_l1New_g0 N b k0 = k0 b 0 h' := by
  obtain ⟨h', h1⟩ := l1New_loop (β := β) N b hb (min b.length 4000) N 0 (w64 (10101 + (b.length : Int))) (by omega) (by omega)
  exact ⟨h', fun k0 => h1 _⟩

theorem l1PickInt_ends (N : Nat) (b : List Int) (i h : Int) (l : List Int) (hl : 0 < l.length) (hl2 : l.length ≤ 256) (h0 : 0 ≤ i) (hb : b.length ≤ 9223372036854775807) :
    ∃ r i' h' : Int, r ∈ l ∧ 0 ≤ i' ∧ ∀ k0 : Int → List Int → Int → Int → List Int → Option β, spec_l1PickInt_g0 N b i h l k0 = k0 r b i' h' l := by
  unfold spec_l1PickInt_g0
  obtain ⟨r, i1, h1, r1, -, p1, e1⟩ := l1Below_ends (β := β) N (l.length : Int) b i h (by omega) h0 hb
  have hr : r < l.length := by have := r1 (by omega); omega
  refine ⟨l[r], i1, h1, List.getElem_mem hr, p1, fun k0 => ?_⟩
  rw [e1, decide_eq_true (by omega : (0 : Int) ≤ (r : Int)), gd_true rfl, decide_eq_true (by omega : (r : Int) < (l.length : Int)), gd_true rfl, rd_nat 0 l r hr]

theorem l1Once_ends (N : Nat) (n : Int) (b : List Int) (i h : Int) (hn : n ≤ 256) (h0 : 0 ≤ i) (hb : b.length ≤ 9223372036854775807) :
    ∃ (r : Bool) (i' h' : Int), 0 ≤ i' ∧ ∀ k0 : Bool → List Int → Int → Int → Option β, spec_l1Once_g0 N n b i h k0 = k0 r b i' h' := by
  unfold spec_l1Once_g0
  obtain ⟨r, i1, h1, -, -, p1, e1⟩ := l1Below_ends (β := β) N n b i h hn h0 hb
  exact ⟨_, i1, h1, p1, fun k0 => e1 _⟩
end Go.Proofs.Ytddflpokemgnmaa
namespace Go.Proofs.Ytddflpokemgnmaa
open Go.Rv
variable {β : Type}
def B (l : List UInt8) : ByteArray := ⟨l.toArray⟩
theorem B_data (s : ByteArray) : B s.data.toList = s := by cases s; simp [B]
theorem B_size (l : List UInt8) : (B l).size = l.length := by simp [B, ByteArray.size]
theorem B_inj {a b : ByteArray} (h : a.data.toList = b.data.toList) : a = b := by rw [← B_data a, ← B_data b, h]
theorem B_toList (l : List UInt8) : (B l).toList = l := Go.ByteArray.toList_mk l
theorem B_list (l : List UInt8) : (B l).data.toList = l := by simp [B]
theorem B_app (l m : List UInt8) : B l ++ B m = B (l ++ m) := by
  apply B_inj
  rw [ByteArray.toList_data_append]
  simp [B]
theorem B_ext (l : List UInt8) (a b : Nat) : (B l).extract a b = B ((l.take b).drop a) := by
  apply B_inj
  rw [ByteArray.data_extract]
  simp [B, List.drop_take, List.extract_eq_take_drop]
theorem B_nil : ByteArray.empty = B [] := rfl
theorem B_one (n : Int) : strOf (([] : List Int) ++ [n]) = B [UInt8.ofNat n.toNat] := by
  simp [strOf, B]
theorem B_strOf (l : List Int) : strOf l = B (l.map fun n => UInt8.ofNat n.toNat) := by simp [strOf, B]
theorem B_bt (l : List UInt8) (i : Nat) (h : i < l.length) : bt (B l) (i : Int) = (l[i].toNat : Int) := by
  simp [bt, B, List.getD, List.getElem?_eq_getElem h]
theorem B_bt0 (c : UInt8) (r : List UInt8) : bt (B (c :: r)) 0 = (c.toNat : Int) := by simp [bt, B]
theorem B_tail (c : UInt8) (r : List UInt8) : (B (c :: r)).extract (Int.toNat 1) (B (c :: r)).size = B r := by
  rw [B_ext, B_size]
  simp
theorem B_lt (c : UInt8) : c.toNat < 256 := c.toNat_lt
end Go.Proofs.Ytddflpokemgnmaa
namespace Go.Proofs.Ytddflpokemgnmaa
open Go.Rv
variable {β : Type}
def lf (n : Nat) : Bool := (decide (97 ≤ n) && decide (n < 102)) || (n == 48 || n == 49)
def bn (n : Nat) : Bool := n == 38 || (n == 124 || n == 94)
/-- A formula at the front: its tree and what is left. -/
def pt : Nat → List UInt8 → Option (Tr × List UInt8)
  | 0, _ => none
  | _ + 1, [] => none
  | F + 1, c :: r =>
    cond (lf c.toNat) (some (.node c.toNat 0 .nil .nil, r))
      (cond (c.toNat == 33) (match pt F r with
        | some (T, r1) => some (.node 33 0 T .nil, r1)
        | none => none)
        (cond (bn c.toNat) (match pt F r with
          | some (A, r1) => match pt F r1 with
            | some (C, r2) => some (.node c.toNat 0 A C, r2)
            | none => none
          | none => none) none))
/-- A tree's text. -/
def tx : Tr → List UInt8
  | .nil => []
  | .node a _ l r => UInt8.ofNat a.toNat :: (tx l ++ tx r)
/-- Trees of formulas. -/
def wf : Tr → Prop
  | .nil => False
  | .node a b l r => b = 0 ∧ ∃ n : Nat, a = n ∧ n < 256 ∧ ((lf n = true ∧ l = .nil ∧ r = .nil) ∨ (n = 33 ∧ wf l ∧ r = .nil) ∨ (bn n = true ∧ wf l ∧ wf r))

theorem pt_wf : ∀ (F : Nat) (l : List UInt8) (T : Tr) (r : List UInt8), pt F l = some (T, r) → wf T ∧ l = tx T ++ r := by
  intro F
  induction F with
  | zero => intro l T r h; cases h
  | succ F ih =>
    intro l T r h
    cases l with
    | nil => cases h
    | cons c l =>
      simp only [pt] at h
      cases h1 : lf c.toNat with
      | true =>
        rw [h1, cond_true] at h
        cases h
        exact ⟨⟨rfl, c.toNat, rfl, B_lt c, .inl ⟨h1, rfl, rfl⟩⟩, by simp [tx]⟩
      | false =>
        rw [h1, cond_false] at h
        cases h2 : c.toNat == 33 with
        | true =>
          rw [h2, cond_true] at h
          have h2 := eq_of_beq h2
          cases h3 : pt F l with
          | none => rw [h3] at h; cases h
          | some p =>
            obtain ⟨U, r1⟩ := p
            rw [h3] at h
            cases h
            obtain ⟨k1, k2⟩ := ih _ _ _ h3
            refine ⟨⟨rfl, 33, rfl, by decide, .inr (.inl ⟨rfl, k1, rfl⟩)⟩, ?_⟩
            have : c = 33 := by rw [← UInt8.ofNat_toNat (x := c), h2]; rfl
            subst this
            simp only [tx, List.append_nil, List.cons_append]
            rw [← k2]
            rfl
        | false =>
          rw [h2, cond_false] at h
          cases h3 : bn c.toNat with
          | false => rw [h3] at h; cases h
          | true =>
            rw [h3, cond_true] at h
            cases h4 : pt F l with
            | none => rw [h4] at h; cases h
            | some p =>
              obtain ⟨U, r1⟩ := p
              rw [h4] at h
              simp only at h
              cases h5 : pt F r1 with
              | none => rw [h5] at h; cases h
              | some q =>
                obtain ⟨V, r2⟩ := q
                rw [h5] at h
                cases h
                obtain ⟨k1, k2⟩ := ih _ _ _ h4
                obtain ⟨k3, k4⟩ := ih _ _ _ h5
                refine ⟨⟨rfl, c.toNat, rfl, B_lt c, .inr (.inr ⟨h3, k1, k3⟩)⟩, ?_⟩
                simp only [tx, Int.toNat_natCast, UInt8.ofNat_toNat, List.cons_append, List.append_assoc]
                rw [← k4, ← k2]

theorem pt_tx : ∀ (T : Tr) (F : Nat) (r : List UInt8), wf T → (tx T).length ≤ F → pt F (tx T ++ r) = some (T, r) := by
  intro T
  induction T with
  | nil => intro F r h; exact h.elim
  | node a b l r ihl ihr =>
    intro F q h hF
    obtain ⟨rfl, n, rfl, hn, h⟩ := h
    have e : (UInt8.ofNat ((n : Int).toNat)).toNat = n := by simp; omega
    cases F with
    | zero => simp [tx] at hF
    | succ F =>
      simp only [tx, List.cons_append, List.append_assoc, List.length_cons, List.length_append] at hF ⊢
      simp only [pt, e]
      rcases h with ⟨h1, rfl, rfl⟩ | ⟨rfl, h1, rfl⟩ | ⟨h1, h2, h3⟩
      · rw [h1]; simp [tx]
      · rw [show lf 33 = false from rfl, show ((33 : Nat) == 33) = true from rfl]
        simp only [cond_true, cond_false, tx, List.nil_append]
        rw [ihl F q h1 (by simpa [tx] using hF)]
        rfl
      · have e1 : lf n = false := by
          simp only [bn, Bool.or_eq_true, beq_iff_eq] at h1
          rcases h1 with rfl | rfl | rfl <;> rfl
        have e2 : (n == 33) = false := by
          simp only [bn, Bool.or_eq_true, beq_iff_eq] at h1
          rcases h1 with rfl | rfl | rfl <;> rfl
        rw [e1, e2, h1]
        simp only [cond_true, cond_false]
        rw [ihl F _ h2 (by omega)]
        simp only
        rw [ihr F _ h3 (by omega)]

theorem tx_pos {T : Tr} (h : wf T) : 0 < (tx T).length := by
  cases T with
  | nil => exact h.elim
  | node a b l r => simp [tx]

theorem isLetter_nat (N n : Nat) (k : Bool → Option β) : impl_isLetter N (n : Int) k = k (decide (97 ≤ n) && decide (n < 102)) := by
  simp only [impl_isLetter]
  by_cases h1 : 97 ≤ n
  · rw [decide_eq_true (show (n : Int) ≥ 97 by omega), decide_eq_true h1]
    simp only [cond_true, Bool.true_and]
    congr 1
    by_cases h2 : n < 102
    · rw [decide_eq_true h2, decide_eq_true (by omega)]
    · rw [decide_eq_false h2, decide_eq_false (by omega)]
  · rw [decide_eq_false (show ¬ (n : Int) ≥ 97 by omega), decide_eq_false h1]
    rfl

theorem natb (n m : Nat) : ((n : Int) == (m : Int)) = (n == m) := by
  by_cases h : n = m
  · subst h; simp
  · rw [beq_eq_false_iff_ne.2 h, beq_eq_false_iff_ne.2 (by omega)]

theorem readPart_eq (N : Nat) : ∀ (F : Nat) (l : List UInt8), l.length < F → ∀ k : Tr → ByteArray → Option β,
    impl_readPart_f N F (B l) k = match pt F l with | some (T, r) => k T (B r) | none => k .nil (B []) := by
  intro F
  induction F with
  | zero => intro l h; omega
  | succ F ih =>
    intro l hF k
    cases l with
    | nil =>
      simp only [impl_readPart_f, impl_readPart_b, B_toList, B_nil, pt]
      rfl
    | cons c r =>
      simp only [List.length_cons] at hF
      simp only [impl_readPart_f, impl_readPart_b, B_toList, B_nil, B_bt0, B_tail]
      simp only [B_size]
      rw [show ((c :: r == []) : Bool) = false from rfl]
      simp only [cond_false]
      rw [gd_true (decide_eq_true (by simp only [List.length_cons]; omega)), gd_true (decide_eq_true (by simp only [List.length_cons]; omega)), isLetter_nat]
      have hn := B_lt c
      simp only [pt]
      generalize c.toNat = n at hn ⊢
      have e48 : ((n : Int) == 48) = (n == 48) := natb n 48
      have e49 : ((n : Int) == 49) = (n == 49) := natb n 49
      have e33 : ((n : Int) == 33) = (n == 33) := natb n 33
      have e38 : ((n : Int) == 38) = (n == 38) := natb n 38
      have e124 : ((n : Int) == 124) = (n == 124) := natb n 124
      have e94 : ((n : Int) == 94) = (n == 94) := natb n 94
      rw [e48, e49, e33, e38, e124, e94]
      simp only [lf, bn]
      have bin : ∀ k' : Tr → Tr → List UInt8 → Option β, (impl_readPart_f N F (B r) fun r6 r7 => cond (Tr.isNil r6) (k .nil (B [])) (impl_readPart_f N F r7 fun r8 r9 => cond (Tr.isNil r8) (k .nil (B [])) (k (.node n 0 r6 r8) r9))) =
          match (match pt F r with
          | some (A, r1) => (match pt F r1 with
            | some (C, r2) => some (Tr.node n 0 A C, r2)
            | none => none)
          | none => none) with | some (T, r) => k T (B r) | none => k .nil (B []) := by
        intro _
        rw [ih r (by omega)]
        cases h1 : pt F r with
        | none => rfl
        | some p =>
          obtain ⟨A, r1⟩ := p
          obtain ⟨w1, w2⟩ := pt_wf _ _ _ _ h1
          have hl : r1.length < F := by rw [w2] at hF; simp at hF; omega
          simp only
          have hA : Tr.isNil A = false := by cases A with | nil => exact w1.elim | node => rfl
          rw [hA, cond_false, ih r1 hl]
          cases h2 : pt F r1 with
          | none => rfl
          | some q =>
            obtain ⟨C, r2⟩ := q
            obtain ⟨w3, w4⟩ := pt_wf _ _ _ _ h2
            have hC : Tr.isNil C = false := by cases C with | nil => exact w3.elim | node => rfl
            simp only
            rw [hC, cond_false]
      by_cases h1 : n = 33
      · subst h1
        simp
        rw [ih r (by omega)]
        cases h1 : pt F r with
        | none => rfl
        | some p =>
          obtain ⟨A, r1⟩ := p
          obtain ⟨w1, w2⟩ := pt_wf _ _ _ _ h1
          have hA : Tr.isNil A = false := by cases A with | nil => exact w1.elim | node => rfl
          simp only
          rw [hA, cond_false]
      · have f1 := beq_eq_false_iff_ne.2 h1
        by_cases h2 : n = 38
        · subst h2; simpa using bin fun _ _ _ => none
        · have f2 := beq_eq_false_iff_ne.2 h2
          by_cases h3 : n = 124
          · subst h3; simpa using bin fun _ _ _ => none
          · have f3 := beq_eq_false_iff_ne.2 h3
            by_cases h4 : n = 94
            · subst h4; simpa using bin fun _ _ _ => none
            · have f4 := beq_eq_false_iff_ne.2 h4
              rw [f1, f2, f3, f4]
              cases (decide (97 ≤ n) && decide (n < 102)) <;> cases h5 : n == 48 <;> cases h6 : n == 49 <;> simp
end Go.Proofs.Ytddflpokemgnmaa
namespace Go.Proofs.Ytddflpokemgnmaa
open Go.Rv
variable {β : Type}
theorem drop_at {α : Type} (l : List α) (i : Nat) (h : i < l.length) : l.drop i = l[i] :: l.drop (i + 1) := List.drop_eq_getElem_cons h
theorem suffix_at {α : Type} {l m r : List α} {i : Nat} (h : l.drop i = m ++ r) (hi : i ≤ l.length) : l.drop (l.length - r.length) = r ∧ l.length - r.length ≤ l.length ∧ i + m.length = l.length - r.length ∧ r.length ≤ l.length := by
  have e : l.length - i = m.length + r.length := by rw [← List.length_drop, h, List.length_append]
  have e2 : l.length - r.length = i + m.length := by omega
  refine ⟨?_, by omega, by omega, by omega⟩
  rw [e2, ← List.drop_drop, h]
  simp

theorem l5End_eq (N : Nat) (l : List UInt8) (hl : l.length ≤ 1048576) : ∀ (F i : Nat), l.length - i < F → i ≤ l.length → ∀ k : Int → Option β,
    spec_l5End_f N F (B l) (i : Int) k = match pt F (l.drop i) with | some (_, r) => k ((l.length - r.length : Nat) : Int) | none => k (-1) := by
  intro F
  induction F with
  | zero => intro i h; omega
  | succ F ih =>
    intro i hF hi k
    simp only [spec_l5End_f, spec_l5End_b, B_size]
    rcases Nat.lt_or_ge i l.length with hlt | hge
    · rw [decide_eq_false (show ¬ (i : Int) ≥ (l.length : Int) by omega), B_bt l i hlt]
      simp only [cond_false]
      rw [gd_true (decide_eq_true (by omega)), gd_true (decide_eq_true (by omega))]
      rw [show w64 ((i : Int) + 1) = ((i + 1 : Nat) : Int) by rw [w64_id] <;> omega]
      rw [drop_at l i hlt]
      have hlen : (l.drop (i + 1)).length = l.length - (i + 1) := List.length_drop
      simp only [pt]
      have hn := B_lt l[i]
      generalize l[i].toNat = n at hn ⊢
      have bin : ∀ d : Int, (spec_l5End_f N F (B l) ((i + 1 : Nat) : Int) fun r4 => cond (decide (r4 < 0)) (k (-1)) (spec_l5End_f N F (B l) r4 fun r5 => k r5)) =
          match (match pt F (l.drop (i + 1)) with
          | some (A, r1) => (match pt F r1 with
            | some (C, r2) => some (Tr.node d 0 A C, r2)
            | none => none)
          | none => none) with | some (_, r) => k ((l.length - r.length : Nat) : Int) | none => k (-1) := by
        intro d
        rw [ih (i + 1) (by omega) (by omega)]
        cases h1 : pt F (l.drop (i + 1)) with
        | none => rfl
        | some p =>
          obtain ⟨A, r1⟩ := p
          obtain ⟨w1, w2⟩ := pt_wf _ _ _ _ h1
          obtain ⟨s1, s2, s3, s4⟩ := suffix_at w2 (by omega)
          simp only
          rw [decide_eq_false (by omega), cond_false, ih _ (by omega) s2, s1]
          cases h2 : pt F r1 <;> rfl
      have g : ∀ m : Nat, ((n : Int) == (m : Int)) = (n == m) := natb n
      have g97 := g 97; have g98 := g 98; have g99 := g 99; have g100 := g 100; have g101 := g 101; have g48 := g 48
      have g49 := g 49; have g33 := g 33; have g38 := g 38; have g124 := g 124; have g94 := g 94
      simp only [Int.cast_ofNat_Int] at g97 g98 g99 g100 g101 g48 g49 g33 g38 g124 g94
      simp only [g97, g98, g99, g100, g101, g48, g49, g33, g38, g124, g94]
      have leaf : (i + 1 : Nat) = l.length - (l.drop (i + 1)).length := by omega
      by_cases hlf : lf n = true
      · rw [hlf]
        simp only [cond_true]
        rw [← leaf]
        simp only [lf, Bool.or_eq_true, Bool.and_eq_true, decide_eq_true_eq, beq_iff_eq] at hlf
        have : n = 97 ∨ n = 98 ∨ n = 99 ∨ n = 100 ∨ n = 101 ∨ n = 48 ∨ n = 49 := by omega
        rcases this with rfl | rfl | rfl | rfl | rfl | rfl | rfl <;> rfl
      · have hlf := eq_false_of_ne_true hlf
        rw [hlf]
        simp only [lf, Bool.or_eq_false_iff, Bool.and_eq_false_iff, decide_eq_false_iff_not, beq_eq_false_iff_ne] at hlf
        rw [beq_eq_false_iff_ne.2 (show n ≠ 97 by omega), beq_eq_false_iff_ne.2 (show n ≠ 98 by omega), beq_eq_false_iff_ne.2 (show n ≠ 99 by omega), beq_eq_false_iff_ne.2 (show n ≠ 100 by omega), beq_eq_false_iff_ne.2 (show n ≠ 101 by omega), beq_eq_false_iff_ne.2 hlf.2.1, beq_eq_false_iff_ne.2 hlf.2.2]
        simp only [cond_false]
        by_cases e8 : n = 33
        · rw [e8, show ((33 : Nat) == 33) = true from rfl]
          simp only [cond_true]
          rw [ih (i + 1) (by omega) (by omega)]
          cases pt F (l.drop (i + 1)) <;> rfl
        rw [beq_eq_false_iff_ne.2 e8]
        simp only [cond_false, bn]
        by_cases e9 : n = 38
        · rw [e9, show ((38 : Nat) == 38) = true from rfl]; exact bin 38
        rw [beq_eq_false_iff_ne.2 e9]
        by_cases e10 : n = 124
        · rw [e10, show ((124 : Nat) == 124) = true from rfl]; exact bin 124
        rw [beq_eq_false_iff_ne.2 e10]
        by_cases e11 : n = 94
        · rw [e11, show ((94 : Nat) == 94) = true from rfl]; exact bin 94
        rw [beq_eq_false_iff_ne.2 e11]
        rfl
    · rw [decide_eq_true (show (i : Int) ≥ (l.length : Int) by omega), cond_true, List.drop_eq_nil_of_le hge]
      rfl

theorem spec_IsFormula_eq (N : Nat) (hN : 1048576 < N) (l : List UInt8) (k : Bool → Option β) : spec_IsFormula N (B l) k = k (decide (l.length ≤ 60) && (match pt 1048577 l with | some (_, []) => true | _ => false)) := by
  simp only [spec_IsFormula, B_size]
  by_cases h : l.length ≤ 60
  · rw [decide_eq_true (show (l.length : Int) ≤ 60 by omega), decide_eq_true h]
    simp only [cond_true, Bool.true_and]
    by_cases h0 : l.length = 0
    · have : l = [] := List.eq_nil_of_length_eq_zero h0
      subst this
      rfl
    · rw [decide_eq_true (show (l.length : Int) > 0 by omega), cond_true]
      show spec_l5End_f N N (B l) ((0 : Nat) : Int) _ = _
      rw [l5End_eq N l (by omega) N 0 (by omega) (by omega), List.drop_zero]
      have hfu : pt N l = pt 1048577 l := by
        cases h1 : pt N l with
        | some p =>
          obtain ⟨T, r⟩ := p
          obtain ⟨w1, w2⟩ := pt_wf _ _ _ _ h1
          rw [w2]
          rw [pt_tx T _ r w1]
          rw [w2] at h; simp at h; omega
        | none =>
          cases h2 : pt 1048577 l with
          | none => rfl
          | some p =>
            obtain ⟨T, r⟩ := p
            obtain ⟨w1, w2⟩ := pt_wf _ _ _ _ h2
            rw [w2, pt_tx T _ r w1] at h1
            · cases h1
            · rw [w2] at h; simp at h; omega
      rw [hfu]
      cases h1 : pt 1048577 l with
      | none => simp; rfl
      | some p =>
        obtain ⟨T, r⟩ := p
        obtain ⟨w1, w2⟩ := pt_wf _ _ _ _ h1
        cases r with
        | nil => simp
        | cons c r =>
          simp only [List.length_cons]
          congr 1
          refine beq_eq_false_iff_ne.2 ?_
          have : (tx T ++ c :: r).length = l.length := by rw [← w2]
          simp at this
          omega
  · rw [decide_eq_false (show ¬ (l.length : Int) ≤ 60 by omega), decide_eq_false h]
    rfl
end Go.Proofs.Ytddflpokemgnmaa
namespace Go.Proofs.Ytddflpokemgnmaa
open Go.Rv
variable {β : Type}
def oth (n : Nat) : Nat := cond (n == 38) 124 (cond (n == 124) 38 (cond (n == 48) 49 (cond (n == 49) 48 n)))
def lt5 (n : Nat) : Bool := decide (97 ≤ n) && decide (n < 102)
def pu : Tr → Bool → Tr
  | .nil, _ => .nil
  | .node a b l r, neg =>
    cond (a == 33) (pu l (!neg))
      (cond (lt5 a.toNat) (cond neg (.node 33 0 (.node a b l r) .nil) (.node a b l r))
        (cond l.isNil (cond neg (.node (oth a.toNat) 0 .nil .nil) (.node a b l r))
          (cond (a == 94) (.node 94 0 (pu l neg) (pu r false))
            (cond neg (.node (oth a.toNat) 0 (pu l neg) (pu r neg)) (.node a 0 (pu l neg) (pu r neg))))))

theorem isNil_node (a b : Int) (l r : Tr) : Tr.isNil (.node a b l r) = false := rfl
theorem isNil_nil : Tr.isNil .nil = true := rfl
theorem wf_nonnil {T : Tr} (h : wf T) : T.isNil = false := by
  cases T with
  | nil => exact h.elim
  | node => rfl
theorem bn_cases {n : Nat} (h : bn n = true) : n = 38 ∨ n = 124 ∨ n = 94 := by
  simpa [bn] using h
theorem lf_cases {n : Nat} (h : lf n = true) : lt5 n = true ∨ (lt5 n = false ∧ (n = 48 ∨ n = 49)) := by
  unfold lf at h
  cases h1 : lt5 n with
  | true => exact .inl rfl
  | false =>
    unfold lt5 at h1
    rw [h1] at h
    exact .inr ⟨rfl, by simpa using h⟩
theorem lt5_33 {n : Nat} (h : lt5 n = true) : ((n : Int) == 33) = false := by
  simp only [lt5, Bool.and_eq_true, decide_eq_true_eq] at h
  exact beq_eq_false_iff_ne.2 (by omega)

theorem pu_wf : ∀ (T : Tr) (neg : Bool), wf T → wf (pu T neg) ∧ (tx (pu T neg)).length ≤ 2 * (tx T).length := by
  intro T
  induction T with
  | nil => intro neg h; exact h.elim
  | node a b l r ihl ihr =>
    intro neg h
    have h0 := h
    obtain ⟨rfl, n, rfl, hn, h⟩ := h
    rcases h with ⟨h1, rfl, rfl⟩ | ⟨rfl, h1, rfl⟩ | ⟨h1, h2, h3⟩
    · rcases lf_cases h1 with h2 | ⟨h2, h3⟩
      · simp only [pu, lt5_33 h2, cond_false, Int.toNat_natCast, h2, cond_true]
        cases neg with
        | true => exact ⟨⟨rfl, 33, rfl, by decide, .inr (.inl ⟨rfl, h0, rfl⟩)⟩, by simp [tx]⟩
        | false => exact ⟨h0, by simp [tx]⟩
      · have e : ((n : Int) == 33) = false := by rcases h3 with rfl | rfl <;> rfl
        simp only [pu, e, cond_false, Int.toNat_natCast, h2, isNil_nil, cond_true]
        cases neg with
        | true => exact ⟨⟨rfl, oth n, rfl, by rcases h3 with rfl | rfl <;> decide, .inl ⟨by rcases h3 with rfl | rfl <;> rfl, rfl, rfl⟩⟩, by simp [tx]⟩
        | false => exact ⟨h0, by simp [tx]⟩
    · simp only [pu, show (((33 : Nat) : Int) == 33) = true from rfl, cond_true]
      obtain ⟨k1, k2⟩ := ihl (!neg) h1
      exact ⟨k1, by simp only [tx, List.length_cons, List.length_append]; omega⟩
    · have e : ((n : Int) == 33) = false := by rcases bn_cases h1 with rfl | rfl | rfl <;> rfl
      have e2 : lt5 n = false := by rcases bn_cases h1 with rfl | rfl | rfl <;> rfl
      obtain ⟨k1, k2⟩ := ihl neg h2
      obtain ⟨k3, k4⟩ := ihr neg h3
      obtain ⟨k5, k6⟩ := ihr false h3
      simp only [pu, e, cond_false, Int.toNat_natCast, e2, wf_nonnil h2]
      cases e3 : ((n : Int) == 94) with
      | true =>
        simp only [cond_true]
        exact ⟨⟨rfl, 94, rfl, by decide, .inr (.inr ⟨rfl, k1, k5⟩)⟩, by simp only [tx, List.length_cons, List.length_append]; omega⟩
      | false =>
        have hb : bn (oth n) = true ∧ oth n < 256 := by
          rcases bn_cases h1 with rfl | rfl | rfl
          · exact ⟨rfl, by decide⟩
          · exact ⟨rfl, by decide⟩
          · cases e3
        cases neg with
        | true => exact ⟨⟨rfl, oth n, rfl, hb.2, .inr (.inr ⟨hb.1, k1, k3⟩)⟩, by simp only [cond_false, cond_true, tx, List.length_cons, List.length_append]; omega⟩
        | false => exact ⟨⟨rfl, n, rfl, hn, .inr (.inr ⟨h1, k1, k3⟩)⟩, by simp only [cond_false, tx, List.length_cons, List.length_append]; omega⟩

theorem impl_other_eq (N n : Nat) (k : Int → Option β) : impl_other N (n : Int) k = k (oth n : Int) := by
  simp only [impl_other, oth]
  have g38 := natb n 38; have g124 := natb n 124; have g48 := natb n 48; have g49 := natb n 49
  simp only [Int.cast_ofNat_Int] at g38 g124 g48 g49
  rw [g38, g124, g48, g49]
  cases n == 38 <;> cases n == 124 <;> cases n == 48 <;> cases n == 49 <;> rfl

theorem isLeaf_eq (N : Nat) (a b : Int) (l r : Tr) (k : Bool → Option β) : impl_part_isLeaf N (.node a b l r) k = k l.isNil := rfl

theorem push_eq (N : Nat) : ∀ (F : Nat) (T : Tr) (neg : Bool), wf T → (tx T).length ≤ F → ∀ k : Tr → Option β, impl_part_push_f N F T neg k = k (pu T neg) := by
  intro F
  induction F with
  | zero => intro T neg h hF; have := tx_pos h; omega
  | succ F ih =>
    intro T neg h hF k
    cases T with
    | nil => exact h.elim
    | node a b l r =>
      have h0 := h
      obtain ⟨rfl, n, rfl, hn, h⟩ := h
      simp only [tx, List.length_cons, List.length_append] at hF
      simp only [impl_part_push_f, impl_part_push_b, isNil_node, Tr.a, Tr.l, Tr.r, Bool.not_false, gd, cond_true, isLetter_nat, isLeaf_eq, impl_other_eq]
      rcases h with ⟨h1, rfl, rfl⟩ | ⟨rfl, h1, rfl⟩ | ⟨h1, h2, h3⟩
      · rcases lf_cases h1 with h2 | ⟨h2, h3⟩
        · have h2' := h2
          simp only [lt5] at h2'
          simp only [pu, lt5_33 h2, cond_false, Int.toNat_natCast, h2, h2', cond_true, isNil_nil]
          cases neg <;> rfl
        · have e : ((n : Int) == 33) = false := by rcases h3 with rfl | rfl <;> rfl
          have h2' := h2
          simp only [lt5] at h2'
          simp only [pu, e, cond_false, Int.toNat_natCast, h2, h2', isNil_nil, cond_true]
          cases neg <;> rfl
      · simp only [pu, show (((33 : Nat) : Int) == 33) = true from rfl, cond_true]
        exact ih l (!neg) h1 (by omega) _
      · have e : ((n : Int) == 33) = false := by rcases bn_cases h1 with rfl | rfl | rfl <;> rfl
        have e2 : lt5 n = false := by rcases bn_cases h1 with rfl | rfl | rfl <;> rfl
        have e2' := e2
        simp only [lt5] at e2'
        simp only [pu, e, cond_false, Int.toNat_natCast, e2, e2', wf_nonnil h2]
        have p1 := fun k' => ih l neg h2 (by omega) k'
        have p2 := fun k' => ih r neg h3 (by omega) k'
        have p3 := fun k' => ih r false h3 (by omega) k'
        cases e3 : ((n : Int) == 94) with
        | true => simp only [cond_true]; rw [p1]; rw [p3]
        | false =>
          simp only [cond_false]
          cases neg with
          | true => simp only [cond_true]; rw [p1]; rw [p2]
          | false => simp only [cond_false]; rw [p1]; rw [p2]

theorem text_eq (N : Nat) : ∀ (F : Nat) (T : Tr), wf T → (tx T).length ≤ F → (tx T).length ≤ 1048576 → ∀ k : ByteArray → Option β, impl_part_text_f N F T k = k (B (tx T)) := by
  intro F
  induction F with
  | zero => intro T h hF; have := tx_pos h; omega
  | succ F ih =>
    intro T h hF hb k
    cases T with
    | nil => exact h.elim
    | node a b l r =>
      obtain ⟨rfl, n, rfl, hn, h⟩ := h
      simp only [tx, List.length_cons, List.length_append] at hF hb
      simp only [impl_part_text_f, impl_part_text_b, isNil_node, Tr.a, Tr.l, Tr.r, Bool.not_false, gd, cond_true, B_one]
      rcases h with ⟨h1, rfl, rfl⟩ | ⟨rfl, h1, rfl⟩ | ⟨h1, h2, h3⟩
      · simp [isNil_nil, tx]
      · rw [wf_nonnil h1]
        simp only [Bool.not_false, cond_true, isNil_nil, Bool.not_true, cond_false]
        rw [ih l h1 (by omega) (by omega)]
        simp only [B_size, B_app]
        rw [decide_eq_true (by simp; omega)]
        simp [tx]
      · rw [wf_nonnil h2, wf_nonnil h3]
        simp only [Bool.not_false, cond_true]
        rw [ih l h2 (by omega) (by omega)]
        simp only [B_size, B_app]
        rw [decide_eq_true (by simp; omega)]
        simp only [cond_true]
        rw [ih r h3 (by omega) (by omega)]
        simp only [B_size, B_app]
        rw [decide_eq_true (by simp; omega)]
        simp [tx]

/-- The reference's pushing, by places. -/
theorem l5Push_eq (N : Nat) (hN : 1048576 < N) (l : List UInt8) (hl : l.length ≤ 60) : ∀ (F : Nat) (T : Tr) (i : Nat) (r : List UInt8) (neg : Bool), wf T → l.drop i = tx T ++ r → (tx T).length ≤ F → i ≤ l.length → ∀ k : ByteArray → Option β,
    spec_l5Push_f N F (B l) (i : Int) neg k = k (B (tx (pu T neg))) := by
  intro F
  induction F with
  | zero => intro T i r neg h _ hF; have := tx_pos h; omega
  | succ F ih =>
    intro T i r neg h hd hF hi k
    obtain ⟨_, hlen⟩ := pu_wf T neg h
    cases T with
    | nil => exact h.elim
    | node a b A C =>
      have h0 := h
      obtain ⟨rfl, n, rfl, hn, h⟩ := h
      have hlt : i < l.length := by
        rcases Nat.lt_or_ge i l.length with h | h
        · exact h
        · rw [List.drop_eq_nil_of_le h] at hd; simp [tx] at hd
      have hat := hd
      rw [drop_at l i hlt] at hat
      simp only [tx, Int.toNat_natCast, List.cons_append, List.append_assoc, List.cons.injEq] at hat
      obtain ⟨hc, hr⟩ := hat
      have hcn : l[i].toNat = n := by rw [hc]; simp; omega
      have hsub : (tx (.node n 0 A C)).length + r.length = l.length - i := by rw [← List.length_append, ← hd, List.length_drop]
      simp only [tx, List.length_cons, List.length_append] at hF hsub
      simp only [spec_l5Push_f, spec_l5Push_b, B_size]
      rw [gd_true (decide_eq_true (by omega)), gd_true (decide_eq_true (by omega)), B_bt l i hlt, hcn]
      rw [show w64 ((i : Int) + 1) = ((i + 1 : Nat) : Int) by rw [w64_id] <;> omega]
      rcases h with ⟨h1, rfl, rfl⟩ | ⟨rfl, h1, rfl⟩ | ⟨h1, h2, h3⟩
      · have hx : (B l).extract (Int.toNat (i : Int)) (Int.toNat ((i + 1 : Nat) : Int)) = B [UInt8.ofNat n] := by
          rw [B_ext]
          congr 1
          rw [Int.toNat_natCast, Int.toNat_natCast, List.take_add_one, List.drop_append_of_le_length (by simp; omega)]
          simp [hlt, hc]
        rw [hx]
        have g33 := natb n 33; have g38 := natb n 38; have g124 := natb n 124; have g94 := natb n 94; have g48 := natb n 48; have g49 := natb n 49
        simp only [Int.cast_ofNat_Int] at g33 g38 g124 g94 g48 g49
        rw [g33, g38, g124, g94, g48, g49]
        rcases lf_cases h1 with h2 | ⟨h2, h3⟩
        · have h2' := h2
          simp only [lt5, Bool.and_eq_true, decide_eq_true_eq] at h2'
          rw [beq_eq_false_iff_ne.2 (show n ≠ 33 by omega), beq_eq_false_iff_ne.2 (show n ≠ 38 by omega), beq_eq_false_iff_ne.2 (show n ≠ 124 by omega), beq_eq_false_iff_ne.2 (show n ≠ 94 by omega), beq_eq_false_iff_ne.2 (show n ≠ 48 by omega), beq_eq_false_iff_ne.2 (show n ≠ 49 by omega)]
          simp only [cond_false, pu, lt5_33 h2, Int.toNat_natCast, h2, cond_true]
          have q1 : decide ((0 : Int) ≤ ((i + 1 : Nat) : Int)) = true := decide_eq_true (by omega)
          have q2 : decide (((i + 1 : Nat) : Int) ≤ (l.length : Int)) = true := decide_eq_true (by omega)
          have q3 : decide ((0 : Int) ≤ (i : Int)) = true := decide_eq_true (by omega)
          have q4 : decide ((i : Int) ≤ ((i + 1 : Nat) : Int)) = true := decide_eq_true (by omega)
          simp only [q1, q2, q3, q4, gd, cond_true]
          cases neg with
          | true => simp [B_strOf, B_size, B_app, tx]
          | false => simp [tx]
        · rcases h3 with rfl | rfl <;> cases neg <;> rfl
      · simp only [show (((33 : Nat) : Int) == 33) = true from rfl, cond_true, pu]
        refine ih A (i + 1) r (!neg) h1 ?_ (by omega) (by omega) k
        simpa [tx] using hr
      · have hr' : l.drop (i + 1) = tx A ++ (tx C ++ r) := by simpa using hr
        have hpt : pt N (l.drop (i + 1)) = some (A, tx C ++ r) := by rw [hr']; exact pt_tx A N _ h2 (by omega)
        obtain ⟨s1, s2, s3, s4⟩ := suffix_at hr' (by omega)
        have hend : ∀ k' : Int → Option β, spec_l5End N (B l) ((i + 1 : Nat) : Int) k' = k' ((l.length - (tx C ++ r).length : Nat) : Int) := fun k' => by
          show spec_l5End_f N N (B l) _ _ = _
          rw [l5End_eq N l (by omega) N (i + 1) (by omega) (by omega), hpt]
        have p1 := fun (neg : Bool) k' => ih A (i + 1) _ neg h2 hr' (by omega) (by omega) k'
        have p2 := fun (neg : Bool) k' => ih C _ r neg h3 s1 (by omega) s2 k'
        have b1 := fun neg => (pu_wf A neg h2).2
        have b2 := fun neg => (pu_wf C neg h3).2
        have e : ((n : Int) == 33) = false := by rcases bn_cases h1 with rfl | rfl | rfl <;> rfl
        have e2 : lt5 n = false := by rcases bn_cases h1 with rfl | rfl | rfl <;> rfl
        simp only [pu, e, cond_false, Int.toNat_natCast, e2, wf_nonnil h2]
        have bt1 := b1 true; have bf1 := b1 false; have bt2 := b2 true; have bf2 := b2 false
        have two : ∀ (d : Int) (x y : Bool), (spec_l5Push_f N F (B l) ((i + 1 : Nat) : Int) x fun r5 => cond (decide ((strOf [d]).size + r5.size ≤ 9223372036854775807)) (spec_l5End N (B l) ((i + 1 : Nat) : Int) fun r6 => spec_l5Push_f N F (B l) r6 y fun r7 =>
            cond (decide ((strOf [d] ++ r5).size + r7.size ≤ 9223372036854775807)) (k (strOf [d] ++ r5 ++ r7)) none) none) = k (B (UInt8.ofNat d.toNat :: (tx (pu A x) ++ tx (pu C y)))) := by
          intro d x y
          have b1 := b1 x; have b2 := b2 y
          rw [p1 x]
          rw [hend, p2 y]
          simp only [B_strOf, B_size, B_app, List.map_cons, List.map_nil, List.length_cons, List.length_nil, List.cons_append, List.nil_append]
          rw [decide_eq_true (by omega), decide_eq_true (by omega)]
          rfl
        rcases bn_cases h1 with rfl | rfl | rfl
        · cases neg
          · exact two 38 false false
          · exact two 124 true true
        · cases neg
          · exact two 124 false false
          · exact two 38 true true
        · exact two 94 neg false

/-- The answer. -/
def pushed (l : List UInt8) : Option (List UInt8) :=
  cond (decide (l.length ≤ 60)) (match pt 1048577 l with
    | some (T, []) => cond (decide ((tx (pu T false)).length ≤ 60)) (some (tx (pu T false))) none
    | _ => none) none
def ansP (o : Option (List UInt8)) (k : ByteArray → Bool → Option β) : Option β := match o with
  | some t => k (B t) true
  | none => k (B []) false
theorem pt_fuel (N : Nat) (hN : 1048576 < N) (l : List UInt8) (h60 : l.length ≤ 60) : pt N l = pt 1048577 l := by
  cases h1 : pt N l with
  | some p =>
    obtain ⟨T, r⟩ := p
    obtain ⟨w1, w2⟩ := pt_wf _ _ _ _ h1
    rw [w2, pt_tx T _ r w1]
    rw [w2] at h60; simp at h60; omega
  | none =>
    cases h2 : pt 1048577 l with
    | none => rfl
    | some p =>
      obtain ⟨T, r⟩ := p
      obtain ⟨w1, w2⟩ := pt_wf _ _ _ _ h2
      rw [w2, pt_tx T _ r w1] at h1
      · cases h1
      · rw [w2] at h60; simp at h60; omega

theorem spec_PushNegations_eq (N : Nat) (hN : 1048576 < N) (l : List UInt8) (k : ByteArray → Bool → Option β) : spec_PushNegations N (B l) k = ansP (pushed l) k := by
  unfold spec_PushNegations pushed
  rw [spec_IsFormula_eq N hN]
  by_cases h60 : l.length ≤ 60
  · rw [decide_eq_true h60]
    simp only [Bool.true_and, cond_true]
    cases hp : pt 1048577 l with
    | none => rfl
    | some p =>
      obtain ⟨T, r⟩ := p
      obtain ⟨w1, w2⟩ := pt_wf _ _ _ _ hp
      cases r with
      | cons c r => rfl
      | nil =>
        simp only [Bool.not_true, cond_false]
        rw [List.append_nil] at w2
        obtain ⟨v1, v2⟩ := pu_wf T false w1
        have hlT : (tx T).length = l.length := by rw [← w2]
        simp only [spec_l5Push]
        rw [show (0 : Int) = ((0 : Nat) : Int) from rfl, l5Push_eq N hN l h60 N T 0 [] false w1 (by simpa using w2) (by omega) (by omega), spec_IsFormula_eq N hN]
        have : pt 1048577 (tx (pu T false)) = some (pu T false, []) := by
          have := pt_tx (pu T false) 1048577 [] v1 (by omega)
          rwa [List.append_nil] at this
        rw [this]
        simp only [Bool.and_true]
        cases decide ((tx (pu T false)).length ≤ 60) <;> rfl
  · rw [decide_eq_false h60]
    rfl

theorem impl_PushNegations_eq (N : Nat) (hN : 1048576 < N) (l : List UInt8) (k : ByteArray → Bool → Option β) : impl_PushNegations N (B l) k = ansP (pushed l) k := by
  unfold impl_PushNegations impl_readFormula pushed
  rw [B_size]
  by_cases h60 : l.length ≤ 60
  · rw [decide_eq_true h60, decide_eq_false (show ¬ (l.length : Int) > 60 by omega)]
    simp only [cond_true, cond_false, impl_readPart]
    rw [readPart_eq N N l (by omega), pt_fuel N hN l h60]
    cases hp : pt 1048577 l with
    | none => rfl
    | some p =>
      obtain ⟨T, r⟩ := p
      obtain ⟨w1, w2⟩ := pt_wf _ _ _ _ hp
      simp only [wf_nonnil w1, Bool.not_false, cond_true, B_nil, B_toList]
      cases r with
      | cons c r => rfl
      | nil =>
        rw [show (([] : List UInt8) == []) = true from rfl]
        simp only [Bool.not_true, cond_false]
        rw [List.append_nil] at w2
        obtain ⟨v1, v2⟩ := pu_wf T false w1
        have hlT : (tx T).length = l.length := by rw [← w2]
        simp only [impl_part_push]
        rw [push_eq N N T false w1 (by omega)]
        simp only [impl_part_text]
        rw [text_eq N N _ v1 (by omega) (by omega), B_size]
        by_cases h2 : (tx (pu T false)).length ≤ 60
        · rw [decide_eq_true h2, decide_eq_false (by omega)]; rfl
        · rw [decide_eq_false h2, decide_eq_true (by omega)]; rfl
  · rw [decide_eq_false h60, decide_eq_true (show (l.length : Int) > 60 by omega)]
    rfl
end Go.Proofs.Ytddflpokemgnmaa
namespace Go.Proofs.Ytddflpokemgnmaa
open Go.Rv
variable {β : Type}
/-- A loop that counts up. -/
theorem loop_st (g : Nat → Nat → Option β) (m : Nat) (r : Option β) (hs : ∀ F i, i < m → g (F + 1) i = g F (i + 1)) (he : ∀ F, g (F + 1) m = r) :
    ∀ (F i : Nat), i ≤ m → m - i < F → g F i = r := by
  intro F
  induction F with
  | zero => intro i _ h; omega
  | succ F ih =>
    intro i hi hF
    rcases Nat.lt_or_ge i m with h | h
    · rw [hs F i h]; exact ih (i + 1) h (by omega)
    · have : i = m := by omega
      subst this; exact he F

def sg (m : Nat) : Int := if m % 2 = 1 then -1 else 1
def bw (w x : Nat) : Nat := if w.testBit x then 1 else 0
/-- The term of a set and an input. -/
def tm (w u x : Nat) : Int := sg (bw w x) * sg (ones (u &&& x))
theorem isTn {n w : Nat} (hn : n ≤ 5) (hw : w < 2 ^ 2 ^ n) : isT (n : Int) (w : Int) = true := by
  have h4 : ((w : Nat) : Int) < 2 ^ 2 ^ n := by exact_mod_cast hw
  simp only [isT, Bool.and_eq_true, decide_eq_true_eq, Int.toNat_natCast]
  exact ⟨⟨⟨by omega, by omega⟩, by omega⟩, h4⟩
theorem w_small {n w : Nat} (hn : n ≤ 5) (hw : w < 2 ^ 2 ^ n) : w < 4294967296 :=
  Nat.lt_of_lt_of_le hw (Nat.le_trans (Nat.pow_le_pow_right (by decide) (size_le hn)) (by decide))

theorem impl_Table_size_eq (N n : Nat) (w : Int) (hn : n ≤ 5) (k : Int → Option β) : impl_Table_size N (n : Int) w k = k ((2 ^ n : Nat) : Int) := by
  unfold impl_Table_size
  rw [gd_true (decide_eq_true (by omega)), shl_one n (by omega)]
/-! ### Energies -/
def en (l z : List Int) : Nat → List Int
  | 0 => z
  | i + 1 => wr (en l z i) (ones i : Int) (w64 (rd 0 (en l z i) (ones i : Int) + w64 (rd 0 l (i : Int) * rd 0 l (i : Int))))
/-! ### Nonlinearity -/
theorem two_pos (n : Nat) : 0 < 2 ^ n := Nat.pow_pos (by decide)
/-! ### Immunity -/
/-! ### Rejects -/
end Go.Proofs.Ytddflpokemgnmaa
namespace Go.Proofs.Ytddflpokemgnmaa
open Go.Rv
variable {β : Type}
theorem w8_small (n : Nat) (h : n < 256) : w8 (n : Int) = n := by
  have := IntKind.wrap_u8 (n : Int)
  show IntKind.wrap .u8 (n : Int) = n
  rw [this]
  omega

/-! ### Lists of numbers -/
end Go.Proofs.Ytddflpokemgnmaa
namespace Go.Proofs.Ytddflpokemgnmaa
open Go.Rv
variable {β : Type}
theorem bw_eq1 (w x : Nat) : ((bw w x : Int) == 1) = w.testBit x := by unfold bw; cases w.testBit x <;> rfl
theorem bit_w (w x : Nat) (hw : w < 9223372036854775808) : bits .and .i64 (shrI .i64 (w : Int) (x : Int)) 1 = (bw w x : Int) := bit_at w x hw

/-- That all below a number are such. -/
def allTo (p : Nat → Bool) : Nat → Bool
  | 0 => true
  | m + 1 => allTo p m && p m
theorem allTo_spec {p : Nat → Bool} : ∀ {m : Nat}, allTo p m = true → ∀ i, i < m → p i = true
  | 0, _, i, h => by omega
  | m + 1, h, i, hi => by
    simp only [allTo, Bool.and_eq_true] at h
    rcases Nat.lt_or_ge i m with h1 | h1
    · exact allTo_spec h.1 i h1
    · have : i = m := by omega
      subst this; exact h.2
theorem allTo_of {p : Nat → Bool} : ∀ {m : Nat}, (∀ i, i < m → p i = true) → allTo p m = true
  | 0, _ => rfl
  | m + 1, h => by
    simp only [allTo, Bool.and_eq_true]
    exact ⟨allTo_of fun i hi => h i (by omega), h m (by omega)⟩
theorem allTo_eq {p q : Nat → Bool} {m m' : Nat} (h : (∀ i, i < m → p i = true) ↔ (∀ i, i < m' → q i = true)) : allTo p m = allTo q m' := by
  cases h1 : allTo p m with
  | true => exact (allTo_of (h.1 (allTo_spec h1))).symm
  | false =>
    cases h2 : allTo q m' with
    | false => rfl
    | true => rw [allTo_of (h.2 (allTo_spec h2))] at h1; cases h1
/-- A loop that leaves at the first that is not such. -/
theorem loop_all (g : Nat → Nat → Option β) (p : Nat → Bool) (m : Nat) (r0 r1 : Option β) (hs : ∀ F i, i < m → g (F + 1) i = cond (p i) (g F (i + 1)) r0) (he : ∀ F, g (F + 1) m = r1) :
    ∀ F, m < F → g F 0 = cond (allTo p m) r1 r0 := by
  have key : ∀ (F i : Nat), i ≤ m → m - i < F → allTo p i = true → g F i = cond (allTo p m) r1 r0 := by
    intro F
    induction F with
    | zero => intro i _ h; omega
    | succ F ih =>
      intro i hi hF ha
      rcases Nat.lt_or_ge i m with h | h
      · rw [hs F i h]
        cases hp : p i with
        | true => exact ih (i + 1) h (by omega) (by simp only [allTo, ha, hp, Bool.and_self])
        | false =>
          have : allTo p m = false := by
            cases hm : allTo p m with
            | false => rfl
            | true => rw [allTo_spec hm i h] at hp; cases hp
          rw [this]; rfl
      · have : i = m := by omega
        subst this
        rw [he, ha]; rfl
  intro F hF
  exact key F 0 (Nat.zero_le _) (by omega) rfl

theorem xor_zero {a b : Nat} (h : a ^^^ b = 0) : a = b := by
  have : a ^^^ b ^^^ b = b := by rw [h, Nat.zero_xor]
  rwa [Nat.xor_assoc, Nat.xor_self, Nat.xor_zero] at this
theorem bit_eq1 (c : Bool) : (((if c then 1 else 0 : Nat) : Int) == 1) = c := by cases c <;> rfl
theorem spread_sm : ∀ x : Nat, x < 16 → ∀ i : Nat, i < 5 → ∀ b : Nat, b < 2 → bits .or .i64 (bits .or .i64 (shlI .i64 (w64 ((x : Int) - bits .and .i64 (x : Int) (w64 (shlI .i64 1 (i : Int) - 1)))) 1) (shlI .i64 (b : Int) (i : Int))) (bits .and .i64 (x : Int) (w64 (shlI .i64 1 (i : Int) - 1))) = (ins x i b : Int) := by decide +kernel
theorem impl_restr_eq (N : Nat) (hN : 64 < N) (n w i b : Nat) (hn : n ≤ 5) (hi : i < n) (hw : w < 4294967296) (hb : b < 2) (k : Int → Int → Option β) :
    impl_Table_restrict N (n : Int) (w : Int) (i : Int) (b : Int) k = k ((n - 1 : Nat) : Int) (tabw (fun x => w.testBit (ins x i b)) (2 ^ (n - 1)) : Int) := by
  unfold impl_Table_restrict
  have hs : 2 ^ (n - 1) ≤ 16 := Nat.le_trans (Nat.pow_le_pow_right (by decide) (by omega : n - 1 ≤ 4)) (by decide)
  rw [show (n : Int) - 1 = ((n - 1 : Nat) : Int) by omega, w64_nat _ (by omega), makeTable_eq N hN (n - 1) (by omega) _ (fun x => w.testBit (ins x i b)) fun x k hx => ?_]
  unfold impl_Table_restrict_1 impl_spread impl_Table_at
  rw [gd_true (decide_eq_true (by omega : (0 : Int) ≤ (i : Int))), gd_true (decide_eq_true (by omega : (0 : Int) ≤ (i : Int))), spread_sm x (by omega) i (by omega) b hb]
  show gd (decide ((0 : Int) ≤ ((ins x i b : Nat) : Int))) (k (bits .and .i64 (shrI .i64 (w : Int) ((ins x i b : Nat) : Int)) 1 == 1)) = _
  rw [gd_true (decide_eq_true (Int.natCast_nonneg _)), bit_at w _ (by omega), bit_eq1]
theorem impl_deps_eq (N : Nat) (hN : 64 < N) (n w i : Nat) (hn : n ≤ 5) (hi : i < n) (hw : w < 4294967296) (k : Bool → Option β) : impl_Table_depends N (n : Int) (w : Int) (i : Int) k = k (dep w n i) := by
  unfold impl_Table_depends
  have e0 := fun k => impl_restr_eq (β := β) N hN n w i 0 hn hi hw (by decide) k
  have e1 := fun k => impl_restr_eq (β := β) N hN n w i 1 hn hi hw (by decide) k
  simp only [Int.natCast_zero] at e0
  have e1 : ∀ k : Int → Int → Option β, impl_Table_restrict N (n : Int) (w : Int) (i : Int) 1 k = k ((n - 1 : Nat) : Int) (tabw (fun x => w.testBit (ins x i 1)) (2 ^ (n - 1)) : Int) := e1
  simp only [e0, e1]
  congr 1
  unfold dep
  rw [beq_self_eq_true, Bool.true_and, bne]
  congr 1
  rw [Bool.eq_iff_iff, beq_iff_eq, beq_iff_eq]
  omega
/-! ### Monotone tables and games -/
def R (w n i b : Nat) : Nat := tabw (fun x => w.testBit (ins x i b)) (2 ^ (n - 1))
theorem R_lt (w n i b : Nat) (hn : n ≤ 5) : R w n i b < 9223372036854775808 :=
  Nat.lt_of_lt_of_le (tabw_lt _ _) (Nat.le_trans (Nat.pow_le_pow_right (by decide) (Nat.le_trans (Nat.pow_le_pow_right (by decide) (by omega : n - 1 ≤ 5)) (by decide : 2 ^ 5 ≤ 32))) (by decide))
def mono (w n i : Nat) : Bool := (R w n i 0 &&& R w n i 1) == R w n i 0
theorem impl_mono (N n w : Nat) (hN : 64 < N) (hn : n ≤ 5) (hw : w < 2 ^ 2 ^ n) (k : Bool → Option β) : impl_Table_isMonotone N (n : Int) (w : Int) k = k (allTo (mono w n) n) := by
  have hw' := w_small hn hw
  unfold impl_Table_isMonotone
  have := loop_all (fun F i => impl_Table_isMonotone_l0 N F (n : Int) (i : Int) (n : Int) (w : Int) (fun e => k e) (k true)) (mono w n) n (k false) (k true) (fun F i hi => ?_) (fun F => ?_) N (by omega)
  · refine this.trans ?_
    cases allTo (mono w n) n <;> rfl
  · simp only [impl_Table_isMonotone_l0, impl_Table_isMonotone_l0b]
    have e0 := fun k => impl_restr_eq (β := β) N hN n w i 0 hn hi hw' (by decide) k
    have e1 := fun k => impl_restr_eq (β := β) N hN n w i 1 hn hi hw' (by decide) k
    simp only [Int.natCast_zero, Int.natCast_one] at e0 e1
    rw [decide_eq_true (show (i : Int) < (n : Int) by omega), cond_true, e0, e1]
    show cond (bits .andNot .i64 (R w n i 0 : Int) (R w n i 1 : Int) != 0) _ _ = _
    rw [bAndNot _ _ (R_lt w n i 0 hn) (R_lt w n i 1 hn), w64_succ i (by omega)]
    unfold mono
    by_cases h : R w n i 0 &&& R w n i 1 = R w n i 0
    · rw [h, beq_self_eq_true, Nat.xor_self]; rfl
    · rw [beq_eq_false_iff_ne.2 h]
      have : ((R w n i 0 ^^^ (R w n i 0 &&& R w n i 1) : Nat) : Int) != 0 := by
        rw [bne_iff_ne]
        intro e
        have e : R w n i 0 ^^^ (R w n i 0 &&& R w n i 1) = 0 := by exact_mod_cast e
        exact h (xor_zero e).symm
      rw [this]; rfl
  · simp only [impl_Table_isMonotone_l0, impl_Table_isMonotone_l0b]
    rw [decide_eq_false (by omega), cond_false]
theorem ins_bit : ∀ n, n ≤ 5 → ∀ i, i < n → ∀ y, y < 2 ^ (n - 1) → (ins y i 0).testBit i = false ∧ (ins y i 1).testBit i = true ∧ ins y i 0 < 2 ^ n ∧ ins y i 1 < 2 ^ n ∧ ins y i 0 ^^^ 2 ^ i = ins y i 1 := by decide +kernel
/-! ### Minimal points -/
end Go.Proofs.Ytddflpokemgnmaa
namespace Go.Proofs.Ytddflpokemgnmaa
open Go.Rv
variable {β : Type}
end Go.Proofs.Ytddflpokemgnmaa
namespace Go.Proofs.Ytddflpokemgnmaa
open Go.Rv
variable {β : Type}
/-! ### Formulas -/
theorem pt_fu (N : Nat) (hN : 1048576 < N) (l : List UInt8) (h60 : l.length ≤ 60) : pt N l = pt 1048577 l := by
  cases h1 : pt N l with
  | some p =>
    obtain ⟨T, r⟩ := p
    obtain ⟨w1, w2⟩ := pt_wf _ _ _ _ h1
    rw [w2, pt_tx T _ r w1]
    rw [w2] at h60; simp at h60; omega
  | none =>
    cases h2 : pt 1048577 l with
    | none => rfl
    | some p =>
      obtain ⟨T, r⟩ := p
      obtain ⟨w1, w2⟩ := pt_wf _ _ _ _ h2
      rw [w2, pt_tx T _ r w1] at h1
      · cases h1
      · rw [w2] at h60; simp at h60; omega
def isForm (l : List UInt8) : Bool := decide (l.length ≤ 60) && (match pt 1048577 l with | some (_, []) => true | _ => false)
theorem spec_IsForm_eq (N : Nat) (hN : 1048576 < N) (l : List UInt8) (k : Bool → Option β) : spec_IsFormula N (B l) k = k (isForm l) := spec_IsFormula_eq N hN l k
theorem impl_IsFormula_eq (N : Nat) (hN : 1048576 < N) (l : List UInt8) (k : Bool → Option β) : impl_IsFormula N (B l) k = k (isForm l) := by
  unfold impl_IsFormula impl_readFormula impl_readPart isForm
  rw [B_size]
  by_cases h : l.length ≤ 60
  · rw [decide_eq_true h, decide_eq_false (by omega), cond_false, Bool.true_and, readPart_eq N N l (by omega), pt_fu N hN l h]
    cases hp : pt 1048577 l with
    | none => rfl
    | some p =>
      obtain ⟨T, r⟩ := p
      obtain ⟨a1, _⟩ := pt_wf _ _ _ _ hp
      have a2 : T.isNil = false := by cases T with | nil => exact a1.elim | node => rfl
      simp only [a2, Bool.not_false, cond_true, B_nil, B_toList]
      cases r <;> rfl
  · rw [decide_eq_false h, decide_eq_true (by omega)]
    rfl

/-! ### Tables -/
/-! ### Words and numbers -/
end Go.Proofs.Ytddflpokemgnmaa
namespace Go.Proofs.Ytddflpokemgnmaa
open Go.Rv
set_option linter.unusedVariables false
variable {β : Type}
/-- How deep a tree is. -/
def hd : Tr → Nat
  | .nil => 0
  | .node _ _ a c => if a.isNil then 0 else 1 + max (hd a) (hd c)
theorem drop_cons {l r : List UInt8} {c : UInt8} {i : Nat} (h : l.drop i = c :: r) : i < l.length ∧ bt (B l) (i : Int) = (c.toNat : Int) ∧ l.drop (i + 1) = r := by
  have hi : i < l.length := by
    rcases Nat.lt_or_ge i l.length with h1 | h1
    · exact h1
    · rw [List.drop_eq_nil_of_le h1] at h; cases h
  rw [drop_at l i hi] at h
  injection h with h1 h2
  exact ⟨hi, by rw [B_bt l i hi, h1], h2⟩
theorem byte_of (n : Nat) (h : n < 256) : (UInt8.ofNat n).toNat = n := by
  rw [UInt8.toNat_ofNat']; exact Nat.mod_eq_of_lt h
theorem node_bt {l r : List UInt8} {n i : Nat} {a c : Tr} (hn : n < 256) (h : l.drop i = tx (.node (n : Int) 0 a c) ++ r) : i < l.length ∧ bt (B l) (i : Int) = (n : Int) ∧ l.drop (i + 1) = tx a ++ (tx c ++ r) := by
  simp only [tx, Int.toNat_natCast, List.cons_append, List.append_assoc] at h
  have := drop_cons h
  rw [byte_of n hn] at this
  exact this
end Go.Proofs.Ytddflpokemgnmaa
namespace Go.Proofs.Ytddflpokemgnmaa
open Go.Rv
set_option linter.unusedVariables false
variable {β : Type}
theorem bt_eq (b : UInt8) (c : Nat) (hc : c < 256) : ((b.toNat : Int) == (c : Int)) = (b == UInt8.ofNat c) := by
  by_cases h : b = UInt8.ofNat c
  · subst h
    rw [UInt8.toNat_ofNat', Nat.mod_eq_of_lt hc]
    simp
  · rw [beq_eq_false_iff_ne.2 h, beq_eq_false_iff_ne]
    intro e
    apply h
    apply UInt8.toNat_inj.1
    rw [UInt8.toNat_ofNat', Nat.mod_eq_of_lt hc]
    omega
/-- The byte at a place. -/
def at8 (l : List UInt8) (i : Nat) : UInt8 := l.getD i 0
theorem at8_get (l : List UInt8) (i : Nat) (h : i < l.length) : at8 l i = l[i] := by
  simp [at8, List.getD_eq_getElem?_getD, List.getElem?_eq_getElem h]
theorem bt_at8 (l : List UInt8) (i : Nat) (h : i < l.length) : bt (B l) (i : Int) = ((at8 l i).toNat : Int) := by
  rw [B_bt l i h, at8_get l i h]
theorem tabw_step (g : Nat → Bool) (i : Nat) (hi : i < 32) : bits .or .i64 (tabw g i : Int) (shlI .i64 1 (i : Int)) = ((tabw g i ||| 2 ^ i : Nat) : Int) := by
  have hw : tabw g i < 2 ^ 63 := Nat.lt_of_lt_of_le (tabw_lt g i) (Nat.pow_le_pow_right (by decide) (by omega))
  rw [shl_one i (by omega), bOr _ _ hw (Nat.pow_lt_pow_right (by decide) (by omega))]
theorem tabw_yes {g : Nat → Bool} {i : Nat} (h : g i = true) : tabw g (i + 1) = tabw g i ||| 2 ^ i := by simp [tabw, h]
theorem tabw_no {g : Nat → Bool} {i : Nat} (h : g i = false) : tabw g (i + 1) = tabw g i := by simp [tabw, h]

theorem tabw_or (g h : Nat → Bool) : ∀ m, tabw g m ||| tabw h m = tabw (fun x => g x || h x) m
  | 0 => by simp [tabw]
  | m + 1 => by
    apply Nat.eq_of_testBit_eq
    intro i
    rw [Nat.testBit_or, tabw_bit, tabw_bit, tabw_bit]
    cases decide (i < m + 1) <;> simp
end Go.Proofs.Ytddflpokemgnmaa
namespace Go.Proofs.Ytddflpokemgnmaa
open Go.Rv
set_option linter.unusedVariables false
variable {β : Type}
theorem allTo_all (p : UInt8 → Bool) (l : List UInt8) : allTo (fun i => p (at8 l i)) l.length = l.all p := by
  rw [Bool.eq_iff_iff, List.all_eq_true]
  constructor
  · intro h x hx
    obtain ⟨i, hi, rfl⟩ := List.mem_iff_getElem.1 hx
    have := allTo_spec h i hi
    rw [at8_get l i hi] at this
    exact this
  · intro h
    exact allTo_of fun i hi => by
      show p (at8 l i) = true
      rw [at8_get l i hi]
      exact h _ (List.getElem_mem hi)
theorem sub97 (b : Nat) (h : 97 ≤ b) (hb : b < 256) : w64 (w8 ((b : Int) - 97)) = ((b - 97 : Nat) : Int) := by
  rw [show (b : Int) - 97 = ((b - 97 : Nat) : Int) by omega, w8_small _ (by omega), w64_id (by omega) (by omega)]
end Go.Proofs.Ytddflpokemgnmaa
