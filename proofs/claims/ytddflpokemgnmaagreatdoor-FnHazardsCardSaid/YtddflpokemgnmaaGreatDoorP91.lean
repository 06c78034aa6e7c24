/- Plain laws of the texts. -/
import Derived.Test.YtddflpokemgnmaaGreatDoorT0
import Derived.Test.YtddflpokemgnmaaGreatDoorRvNum
namespace Go.Proofs.YtddflpokemgnmaaGreatDoor
open Go.Rv

variable {β : Type}
end Go.Proofs.YtddflpokemgnmaaGreatDoor
namespace Go.Proofs.YtddflpokemgnmaaGreatDoor
open Go.Rv
variable {β : Type}

end Go.Proofs.YtddflpokemgnmaaGreatDoor
namespace Go.Proofs.YtddflpokemgnmaaGreatDoor
open Go.Rv
set_option linter.unusedVariables false
variable {β : Type}
def tabw (g : Nat → Bool) : Nat → Nat
  | 0 => 0
  | i + 1 => tabw g i ||| (if g i then 2 ^ i else 0)
theorem tabw_lt (g : Nat → Bool) : ∀ i, tabw g i < 2 ^ i
  | 0 => by simp [tabw]
  | i + 1 => by
    have := tabw_lt g i
    unfold tabw
    have h2 : 2 ^ (i + 1) = 2 ^ i + 2 ^ i := by rw [Nat.pow_succ]; omega
    refine Nat.or_lt_two_pow (by omega) ?_
    split
    · have := Nat.two_pow_pos i; omega
    · exact Nat.two_pow_pos _
theorem tabw_congr {g h : Nat → Bool} : ∀ {n : Nat}, (∀ i, i < n → g i = h i) → tabw g n = tabw h n
  | 0, _ => rfl
  | n + 1, e => by
    unfold tabw
    rw [tabw_congr (n := n) fun i hi => e i (by omega), e n (by omega)]

theorem pow_le_64 {n : Nat} (h : n ≤ 62) : 2 ^ n < 9223372036854775808 := Nat.lt_of_le_of_lt (Nat.pow_le_pow_right (by decide) h) (by decide)
theorem size_le {n : Nat} (h : n ≤ 5) : 2 ^ n ≤ 32 := Nat.le_trans (Nat.pow_le_pow_right (by decide) h) (by decide)

theorem shl_one (n : Nat) (h : n ≤ 62) : shlI .i64 1 (n : Int) = ((2 ^ n : Nat) : Int) := by
  have := shl_nat 1 n (by omega) (by rw [Nat.one_mul]; exact pow_le_64 h)
  rw [Nat.one_mul] at this
  exact this

theorem makeTable_loop (N : Nat) (h : Int → (Bool → Option β) → Option β) (g : Nat → Bool) (m : Nat) (hm : m ≤ 32) (hh : ∀ (x : Nat) k, x < m → h (x : Int) k = k (g x)) (k0 : Int → Int → Int → Int → Option β) (a b n : Int) :
    ∀ (F i : Nat), m - i < F → i ≤ m → zj104 N h F (m : Int) (i : Int) a b n (tabw g i : Int) k0 = k0 a b n (tabw g m : Int) := by
  intro F
  induction F with
  | zero => intro i hF; omega
  | succ F ih =>
    intro i hF hi
    simp only [zj104, zj103]
    by_cases hlt : i < m
    · rw [decide_eq_true (by omega : (i : Int) < (m : Int))]
      simp only [cond_true, hh i _ hlt]
      have h1 := ih (i + 1) (by omega) (by omega)
      rw [w64_succ i (by omega)]
      have hw : tabw g i < 2 ^ 63 := Nat.lt_of_lt_of_le (tabw_lt g i) (Nat.pow_le_pow_right (by decide) (by omega))
      cases hg : g i with
      | true =>
        have e : tabw g (i + 1) = tabw g i ||| 2 ^ i := by simp [tabw, hg]
        rw [e] at h1
        simp only [cond_true, gd_true (decide_eq_true (by omega : 0 ≤ (i : Int)))]
        rw [shl_one i (by omega), bOr _ _ hw (Nat.pow_lt_pow_right (by decide) (by omega))]
        exact h1
      | false =>
        have e : tabw g (i + 1) = tabw g i := by simp [tabw, hg]
        rw [e] at h1
        exact h1
    · have : i = m := by omega
      subst this
      rw [decide_eq_false (by omega : ¬ (i : Int) < (i : Int))]
      rfl

theorem makeTable_eq (N : Nat) (hN : 64 < N) (n : Nat) (hn : n ≤ 5) (h : Int → (Bool → Option β) → Option β) (g : Nat → Bool) (hh : ∀ (x : Nat) k, x < 2 ^ n → h (x : Int) k = k (g x)) (k : Int → Int → Option β) :
    zj105 N (n : Int) h k = k n (tabw g (2 ^ n) : Int) := by
  unfold zj105
  rw [gd_true (decide_eq_true (by omega)), shl_one n (by omega)]
  have := size_le hn
  exact makeTable_loop N h g (2 ^ n) this hh (fun _ _ e2 e3 => k e2 e3) 0 0 n N 0 (by omega) (Nat.zero_le _)

def ys (x i b : Nat) : Nat := x - (x &&& 2 ^ i) + b * 2 ^ i
theorem bit_at (w y : Nat) (hw : w < 9223372036854775808) : bits .and .i64 (shrI .i64 (w : Int) (y : Int)) 1 = ((if w.testBit y then 1 else 0 : Nat) : Int) := by
  rw [shr_nat w y hw]
  have h1 : w / 2 ^ y < 2 ^ 63 := Nat.lt_of_le_of_lt (Nat.div_le_self _ _) hw
  have := bAnd (w / 2 ^ y) 1 h1 (by decide)
  rw [show ((1 : Nat) : Int) = 1 from rfl] at this
  rw [this, Nat.and_one_is_mod]
  congr 1
  rw [Nat.testBit, Nat.shiftRight_eq_div_pow, Nat.and_comm, Nat.and_one_is_mod]
  have := Nat.mod_two_eq_zero_or_one (w / 2 ^ y)
  rcases this with h | h <;> simp [h]

def isT (a0 a1 : Int) : Bool := decide (0 ≤ a0) && decide (a0 ≤ 5) && decide (0 ≤ a1) && decide (a1 < 2 ^ 2 ^ a0.toNat)

theorem isT_nat {a0 a1 : Int} (h : isT a0 a1 = true) : ∃ n w : Nat, a0 = n ∧ a1 = w ∧ n ≤ 5 ∧ w < 2 ^ 2 ^ n ∧ w < 4294967296 := by
  simp only [isT, Bool.and_eq_true, decide_eq_true_eq] at h
  obtain ⟨⟨⟨h1, h2⟩, h3⟩, h4⟩ := h
  obtain ⟨n, rfl⟩ := Int.eq_ofNat_of_zero_le h1
  obtain ⟨w, rfl⟩ := Int.eq_ofNat_of_zero_le h3
  simp only [Int.toNat_natCast] at h4
  have h5 : w < 2 ^ 2 ^ n := by exact_mod_cast h4
  have h6 : 2 ^ 2 ^ n ≤ 2 ^ 32 := Nat.pow_le_pow_right (by decide) (size_le (by omega))
  exact ⟨n, w, rfl, rfl, by omega, h5, by omega⟩

theorem shl_u64 : ∀ n : Nat, n ≤ 5 → shlI .u64 1 (n : Int) = ((2 ^ n : Nat) : Int) := by decide +kernel

theorem spec_IsTable_eq (N : Nat) (a0 a1 : Int) (k : Bool → Option β) : zj5 N a0 a1 k = k (isT a0 a1) := by
  unfold zj5 zj4
  by_cases h0 : 0 ≤ a0
  · rw [decide_eq_true (by omega : a0 ≥ 0)]
    simp only [cond_true]
    by_cases h5 : a0 ≤ 5
    · rw [decide_eq_true h5]
      obtain ⟨n, rfl⟩ := Int.eq_ofNat_of_zero_le h0
      have hn : n ≤ 5 := by omega
      have hs := size_le hn
      have hp := pow_le_64 (n := 2 ^ n) (by omega)
      have hpos := Nat.two_pow_pos (2 ^ n)
      simp only [cond_true]
      rw [gd_true rfl, shl_u64 n hn, gd_true (decide_eq_true (Int.natCast_nonneg _)), shl_one (2 ^ n) (by omega), w64_id (by omega) (by omega)]
      have e : isT (n : Int) a1 = (decide (0 ≤ a1) && decide (a1 < ((2 ^ 2 ^ n : Nat) : Int))) := by
        simp only [isT, Int.toNat_natCast, decide_eq_true (by omega : 0 ≤ (n : Int)), decide_eq_true (by omega : (n : Int) ≤ 5), Bool.true_and]
        push_cast
        rfl
      rw [e]
      by_cases h1 : 0 ≤ a1
      · rw [decide_eq_true (by omega : a1 ≥ 0)]
        simp only [cond_true, Bool.true_and]
        congr 1
        exact decide_eq_decide.2 (by omega)
      · rw [decide_eq_false (by omega : ¬ a1 ≥ 0)]; rfl
    · rw [decide_eq_false h5]
      simp [isT, h5]
  · rw [decide_eq_false (by omega : ¬ a0 ≥ 0)]
    simp [isT, h0]

theorem impl_IsTable_eq (N : Nat) (a0 a1 : Int) (h : a1 < 9223372036854775808) (k : Bool → Option β) : zj109 N a0 a1 k = k (isT a0 a1) := by
  unfold zj109 zj53 zj108
  by_cases h0 : 0 ≤ a0
  · rw [decide_eq_true (by omega : a0 ≥ 0)]
    simp only [cond_true]
    by_cases h5 : a0 ≤ 5
    · rw [decide_eq_true h5]
      obtain ⟨n, rfl⟩ := Int.eq_ofNat_of_zero_le h0
      have hn : n ≤ 5 := by omega
      have hs := size_le hn
      have hpos := Nat.two_pow_pos (2 ^ n)
      simp only [cond_true]
      rw [gd_true rfl]
      have e : isT (n : Int) a1 = (decide (0 ≤ a1) && decide (a1 < ((2 ^ 2 ^ n : Nat) : Int))) := by
        simp only [isT, Int.toNat_natCast, decide_eq_true (by omega : 0 ≤ (n : Int)), decide_eq_true (by omega : (n : Int) ≤ 5), Bool.true_and]
        push_cast
        rfl
      rw [e]
      by_cases h1 : 0 ≤ a1
      · obtain ⟨w, rfl⟩ := Int.eq_ofNat_of_zero_le h1
        rw [decide_eq_true (by omega : (w : Int) ≥ 0), shl_one n (by omega)]
        simp only [cond_true, Bool.true_and]
        rw [gd_true (decide_eq_true (Int.natCast_nonneg _)), shr_nat w (2 ^ n) (by omega)]
        congr 1
        have : w / 2 ^ 2 ^ n = 0 ↔ w < 2 ^ 2 ^ n := by
          rw [Nat.div_eq_zero_iff]
          omega
        by_cases hw : w < 2 ^ 2 ^ n
        · rw [this.2 hw, decide_eq_true (by omega)]; rfl
        · rw [decide_eq_false (by omega)]
          have : ¬ w / 2 ^ 2 ^ n = 0 := fun h => hw (this.1 h)
          simp only [beq_eq_false_iff_ne, ne_eq]
          omega
      · rw [decide_eq_false (by omega : ¬ a1 ≥ 0)]; rfl
    · rw [decide_eq_false h5]
      simp [isT, h5]
  · rw [decide_eq_false (by omega : ¬ a0 ≥ 0)]
    simp [isT, h0]
end Go.Proofs.YtddflpokemgnmaaGreatDoor
namespace Go.Proofs.YtddflpokemgnmaaGreatDoor
open Go.Rv
set_option linter.unusedVariables false
variable {β : Type}
def ins (x i b : Nat) : Nat := (x / 2 ^ i) * 2 ^ (i + 1) ||| b * 2 ^ i ||| (x &&& (2 ^ i - 1))
def dep (w n i : Nat) : Bool := tabw (fun x => w.testBit (ins x i 0)) (2 ^ (n - 1)) != tabw (fun x => w.testBit (ins x i 1)) (2 ^ (n - 1))

def vars (w n m : Nat) : List Int := ((List.range m).filter fun i => dep w n i).map Int.ofNat
end Go.Proofs.YtddflpokemgnmaaGreatDoor
namespace Go.Proofs.YtddflpokemgnmaaGreatDoor
open Go.Rv
set_option linter.unusedVariables false
variable {β : Type}
theorem isT_of {n w : Nat} (hn : n ≤ 5) (hw : w < 2 ^ 2 ^ n) : isT (n : Int) (w : Int) = true := by
  simp only [isT, Bool.and_eq_true, decide_eq_true_eq, Int.toNat_natCast]
  refine ⟨⟨⟨by omega, by omega⟩, by omega⟩, ?_⟩
  rw [show ((2 : Int) ^ 2 ^ n) = ((2 ^ 2 ^ n : Nat) : Int) by simp]
  omega

end Go.Proofs.YtddflpokemgnmaaGreatDoor
namespace Go.Proofs.YtddflpokemgnmaaGreatDoor
open Go.Rv
set_option linter.unusedVariables false
variable {β : Type}
theorem spec_l1In_eq (N : Nat) (a b c : Int) (k : Bool → Option β) : zj4 N a b c k = k (decide (b ≤ a) && decide (a ≤ c)) := by
  unfold zj4
  by_cases h : b ≤ a
  · rw [decide_eq_true (by omega : a ≥ b)]; rfl
  · rw [decide_eq_false (by omega : ¬ a ≥ b)]; rfl
def addAll (s : Nat) (l : List Int) : Nat := l.foldl (fun s x => s ||| 2 ^ x.toNat) s

end Go.Proofs.YtddflpokemgnmaaGreatDoor
namespace Go.Proofs.YtddflpokemgnmaaGreatDoor
open Go.Rv
set_option linter.unusedVariables false
variable {β : Type}
def pc : Nat → Nat → Nat
  | 0, _ => 0
  | f + 1, w => w % 2 + pc f (w / 2)
def ones (w : Nat) : Nat := pc 32 w
def q1 (c : Nat) : Nat := (c / 2 &&& 85) + (c &&& 85)
def q2 (c : Nat) : Nat := (c / 4 &&& 51) + (c &&& 51)
def q3 (c : Nat) : Nat := (c / 16 + c) &&& 15
def g1 (a : Int) : Int := wu64 (bits .and .u64 (shrI .u64 a 1) 6148914691236517205 + bits .and .u64 a 6148914691236517205)
def g2 (a : Int) : Int := wu64 (bits .and .u64 (shrI .u64 a 2) 3689348814741910323 + bits .and .u64 a 3689348814741910323)
def g3 (a : Int) : Int := bits .and .u64 (wu64 (shrI .u64 a 4 + a)) 1085102592571150095
def g4 (a : Int) : Int := wu64 (a + shrI .u64 a 8)
theorem spec_l2Count_eq (N w : Nat) (hN : 64 < N) (hw : w < 4294967296) (k : Int → Option β) : zj34 N (w : Int) k = k (ones w : Int) := by
  have key : ∀ (f F n w : Nat), f < F → w < 2 ^ f → n + f < 1000 → w < 4294967296 → zj33 N F (n : Int) (w : Int) k = k ((n + pc f w : Nat) : Int) := by
    intro f
    induction f with
    | zero =>
      intro F n w hF hw _ _
      obtain ⟨F, rfl⟩ : ∃ G, F = G + 1 := ⟨F - 1, by omega⟩
      have : w = 0 := by simpa using hw
      subst this
      simp only [zj33, zj32, pc]
      rfl
    | succ f ih =>
      intro F n w hF hw hn hw'
      obtain ⟨F, rfl⟩ : ∃ G, F = G + 1 := ⟨F - 1, by omega⟩
      simp only [zj33, zj32, pc]
      by_cases h0 : w = 0
      · subst h0
        have z : ∀ f, pc f 0 = 0 := fun f => by
          induction f with
          | zero => rfl
          | succ f ih => simp [pc, ih]
        simp [z]
      · have ha := bAnd w 1 (by omega) (by omega)
        rw [decide_eq_true (by omega : (w : Int) > 0), cond_true, show (1 : Int) = ((1 : Nat) : Int) from rfl, ha, shr_nat w 1 (by omega), Nat.and_one_is_mod, ← Int.natCast_add, w64_nat _ (by omega)]
        rw [ih F (n + w % 2) (w / 2 ^ 1) (by omega) (by rw [Nat.pow_succ] at hw; omega) (by omega) (by omega)]
        congr 2
        simp only [Nat.pow_one]
        omega
  have := key 32 N 0 w (by omega) hw (by omega) hw
  simpa [ones, zj34] using this
end Go.Proofs.YtddflpokemgnmaaGreatDoor
namespace Go.Proofs.YtddflpokemgnmaaGreatDoor
open Go.Rv
set_option linter.unusedVariables false
variable {β : Type}
theorem spec_l2Full_eq (N n : Nat) (hn : n ≤ 5) (k : Int → Option β) : zj31 N (n : Int) k = k ((2 ^ 2 ^ n - 1 : Nat) : Int) := by
  have hs := size_le hn
  have hp : 2 ^ 2 ^ n < 9223372036854775808 := pow_le_64 (by omega)
  have h1 := Nat.two_pow_pos (2 ^ n)
  unfold zj31
  rw [shl_u64 n hn, shl_one (2 ^ n) (by omega), decide_eq_true (by omega : (0 : Int) ≤ (n : Int)), decide_eq_true (Int.natCast_nonneg (2 ^ n)), gd_true rfl, gd_true rfl, w64_id (by omega) (by omega)]
  congr 1
  omega

end Go.Proofs.YtddflpokemgnmaaGreatDoor
namespace Go.Proofs.YtddflpokemgnmaaGreatDoor
open Go.Rv

variable {β : Type}
theorem and_mask (x : Int) (m : Nat) (hm : m < 9223372036854775808) : ∃ r : Nat, bits .and .i64 x (m : Int) = r ∧ r ≤ m := by
  refine ⟨((BitVec.ofInt 64 x) &&& (BitVec.ofInt 64 (m : Int))).toNat, ?_, ?_⟩
  · have h : ((BitVec.ofInt 64 x) &&& (BitVec.ofInt 64 (m : Int))).toNat ≤ m := by
      rw [BitVec.toNat_and, BitVec.ofInt_natCast, BitVec.toNat_ofNat, Nat.mod_eq_of_lt (by omega : m < 2 ^ 64)]
      exact Nat.and_le_right
    have h63 : (2 : Int) ^ 63 = 9223372036854775808 := by decide
    have key : ∀ r : Nat, r ≤ m → IntKind.i64.wrap (r : Int) = r := fun r hr => wrap_small _ (by omega) (by omega)
    exact key _ h
  · rw [BitVec.toNat_and, BitVec.ofInt_natCast, BitVec.toNat_ofNat, Nat.mod_eq_of_lt (by omega : m < 2 ^ 64)]
    exact Nat.and_le_right

theorem bits_top (op : BinOp) (x y : Int) : bits op .i64 x y < 9223372036854775808 := by
  show IntKind.i64.wrap _ < _
  rw [IntKind.wrap_i64]
  omega

theorem l1Byte_ends (N : Nat) (b : List Int) (i h : Int) (h0 : 0 ≤ i) (hb : b.length ≤ 9223372036854775807) :
    ∃ (r : Nat) (i' h' : Int), r ≤ 255 ∧ 0 ≤ i' ∧ ∀ k0 : Int → List Int → Int → Int → Option β, zj26 N b i h k0 = k0 r b i' h' := by
  unfold zj26
  by_cases hi : i < (b.length : Int)
  · obtain ⟨r, h1, h2⟩ := and_mask (w64 ((bits .and .i64 (bits .xor .i64 (shrI .i64 (w64 ((w64 (h * 6364136223846793005)) + 1442695040888963407)) 33) (shrI .i64 (w64 ((w64 (h * 6364136223846793005)) + 1442695040888963407)) 45)) 255) + (w64 ((rd 0 b i))))) 255 (by decide)
    refine ⟨r, w64 (i + 1), w64 ((w64 (h * 6364136223846793005)) + 1442695040888963407), h2, ?_, fun k0 => ?_⟩
    · rw [w64_id] <;> omega
    · rw [decide_eq_true hi, cond_true, decide_eq_true h0, gd_true rfl, gd_true rfl, ← h1]
      rfl
  · obtain ⟨r, h1, h2⟩ := and_mask (bits .xor .i64 (shrI .i64 (w64 ((w64 (h * 6364136223846793005)) + 1442695040888963407)) 33) (shrI .i64 (w64 ((w64 (h * 6364136223846793005)) + 1442695040888963407)) 45)) 255 (by decide)
    refine ⟨r, i, w64 ((w64 (h * 6364136223846793005)) + 1442695040888963407), h2, h0, fun k0 => ?_⟩
    rw [decide_eq_false hi, cond_false, ← h1]
    rfl

theorem l1Below_ends (N : Nat) (n : Int) (b : List Int) (i h : Int) (hn : n ≤ 256) (h0 : 0 ≤ i) (hb : b.length ≤ 9223372036854775807) :
    ∃ (r : Nat) (i' h' : Int), (0 < n → (r : Int) < n) ∧ (n ≤ 0 → r = 0) ∧ 0 ≤ i' ∧ ∀ k0 : Int → List Int → Int → Int → Option β, zj27 N n b i h k0 = k0 r b i' h' := by
  unfold zj27
  by_cases hp : n ≤ 0
  · exact ⟨0, i, h, fun h => by omega, fun _ => rfl, h0, fun k0 => by rw [decide_eq_true hp, cond_true]; rfl⟩
  · obtain ⟨r, i', h', h1, h2, h3⟩ := l1Byte_ends (β := β) N b i h h0 hb
    obtain ⟨m, rfl⟩ := Int.eq_ofNat_of_zero_le (by omega : 0 ≤ n)
    have hm : 0 < m := by omega
    refine ⟨r % m, i', h', fun _ => by have := Nat.mod_lt r hm; omega, fun h => by omega, h2, fun k0 => ?_⟩
    rw [decide_eq_false hp, cond_false, decide_eq_true hn, cond_true, h3]
    have hne : ((m : Int) != 0) = true := by simp; omega
    rw [hne, gd_true rfl]
    have : remI (r : Int) (m : Int) = ((r % m : Nat) : Int) := by
      unfold remI
      rw [Int.natCast_emod]
      exact Int.tmod_eq_emod_of_nonneg (Int.natCast_nonneg r)
    rw [this]

theorem l1New_loop (N : Nat) (b : List Int) (hb : b.length ≤ 9223372036854775807) : ∀ (d F i : Nat) (h : Int), i + d = min b.length 4000 → d < F →
    ∃ h', ∀ k0 : List Int → Int → Option β, zj2 N F b h (i : Int) k0 = k0 b h' := by
  intro d
  induction d with
  | zero =>
    intro F i h hd hF
    obtain ⟨F, rfl⟩ : ∃ F', F = F' + 1 := ⟨F - 1, by omega⟩
    refine ⟨h, fun k0 => ?_⟩
    show zj1 N b h (i : Int) _ k0 = _
    unfold zj1
    by_cases hi : (i : Int) < (b.length : Int)
    · rw [decide_eq_true hi, cond_true, decide_eq_false (by omega : ¬ (i : Int) < 4000), cond_false]
    · rw [decide_eq_false hi, cond_false]
  | succ d ih =>
    intro F i h hd hF
    obtain ⟨F, rfl⟩ : ∃ F', F = F' + 1 := ⟨F - 1, by omega⟩
    obtain ⟨h', h1⟩ := ih F (i + 1) (bits .and .i64 (w64 ((w64 ((w64 (h * 131)) + (w64 ((rd 0 b (i : Int)))))) + 7)) 1073741823) (by omega) (by omega)
    refine ⟨h', fun k0 => ?_⟩
    show zj1 N b h (i : Int) _ k0 = _
    unfold zj1
    rw [decide_eq_true (by omega : (i : Int) < (b.length : Int)), cond_true, decide_eq_true (by omega : (i : Int) < 4000), cond_true, decide_eq_true (by omega : (0 : Int) ≤ (i : Int)), gd_true rfl, gd_true rfl, w64_succ i (by omega)]
    exact h1 k0
theorem l1New_ends (N : Nat) (hN : 4096 < N) (b : List Int) (hb : b.length ≤ 9223372036854775807) :
    ∃ h' : Int, ∀ k0 : List Int → Int → Int → Option β, zj3 N b k0 = k0 b 0 h' := by
  obtain ⟨h', h1⟩ := l1New_loop (β := β) N b hb (min b.length 4000) N 0 (w64 (10101 + (b.length : Int))) (by omega) (by omega)
  exact ⟨h', fun k0 => h1 _⟩

theorem l2Variable_loop (N n i : Nat) (hn : n ≤ 5) : ∀ (d F x : Nat) (v : Int), x + d = 2 ^ n → d < F →
    ∃ v' : Int, ∀ k0 : Int → Option β, zj29 N F (n : Int) (i : Int) v (x : Int) k0 = k0 v' := by
  have hs := size_le hn
  intro d
  induction d with
  | zero =>
    intro F x v hd hF
    obtain ⟨F, rfl⟩ : ∃ F', F = F' + 1 := ⟨F - 1, by omega⟩
    refine ⟨v, fun k0 => ?_⟩
    show zj28 N (n : Int) (i : Int) v (x : Int) _ k0 = _
    unfold zj28
    rw [shl_one n (by omega), decide_eq_true (by omega : (0 : Int) ≤ (n : Int)), gd_true rfl, decide_eq_false (by omega : ¬ (x : Int) < ((2 ^ n : Nat) : Int)), cond_false]
  | succ d ih =>
    intro F x v hd hF
    obtain ⟨F, rfl⟩ : ∃ F', F = F' + 1 := ⟨F - 1, by omega⟩
    have step : ∀ k0 : Int → Option β, zj29 N (F + 1) (n : Int) (i : Int) v (x : Int) k0 =
        zj29 N F (n : Int) (i : Int) (cond (bits .and .i64 (shrI .i64 (x : Int) (i : Int)) 1 == 1) (bits .or .i64 v (shlI .i64 1 (x : Int))) v) ((x + 1 : Nat) : Int) k0 := fun k0 => by
      show zj28 N (n : Int) (i : Int) v (x : Int) _ k0 = _
      unfold zj28
      rw [shl_one n (by omega), decide_eq_true (by omega : (0 : Int) ≤ (n : Int)), gd_true rfl, decide_eq_true (by omega : (x : Int) < ((2 ^ n : Nat) : Int)), cond_true, decide_eq_true (by omega : (0 : Int) ≤ (i : Int)), gd_true rfl, decide_eq_true (by omega : (0 : Int) ≤ (x : Int)), gd_true rfl, w64_succ x (by omega)]
      cases (bits .and .i64 (shrI .i64 (x : Int) (i : Int)) 1 == 1) <;> rfl
    obtain ⟨v', h1⟩ := ih F (x + 1) (cond (bits .and .i64 (shrI .i64 (x : Int) (i : Int)) 1 == 1) (bits .or .i64 v (shlI .i64 1 (x : Int))) v) (by omega) (by omega)
    exact ⟨v', fun k0 => (step k0).trans (h1 k0)⟩
theorem l2Variable_ends (N n i : Nat) (hN : 64 < N) (hn : n ≤ 5) : ∃ v : Int, ∀ k0 : Int → Option β, zj30 N (n : Int) (i : Int) k0 = k0 v := by
  have hs := size_le hn
  obtain ⟨v, h⟩ := l2Variable_loop (β := β) N n i hn (2 ^ n) N 0 0 (by omega) (by omega)
  exact ⟨v, fun k0 => h _⟩

theorem draw_l3 (N n : Nat) (hN : 64 < N) (hn : n ≤ 5) (b : List Int) (c4 c5 c6 c7 : Int) : ∀ (d F x : Nat) (v : Int), x + d = 2 ^ n → d < F →
    ∃ v' : Int, ∀ k0 : Int → Int → List Int → Int → Int → Int → Int → Option β, zj36 N F (n : Int) v (x : Int) b c4 c5 c6 c7 k0 = k0 (n : Int) v' b c4 c5 c6 c7 := by
  have hs := size_le hn
  intro d
  induction d with
  | zero =>
    intro F x v hd hF
    obtain ⟨F, rfl⟩ : ∃ F', F = F' + 1 := ⟨F - 1, by omega⟩
    refine ⟨v, fun k0 => ?_⟩
    show zj35 N (n : Int) v (x : Int) b c4 c5 c6 c7 _ k0 = _
    unfold zj35
    rw [shl_one n (by omega), decide_eq_true (by omega : (0 : Int) ≤ (n : Int)), gd_true rfl, decide_eq_false (by omega : ¬ (x : Int) < ((2 ^ n : Nat) : Int)), cond_false]
  | succ d ih =>
    intro F x v hd hF
    obtain ⟨F, rfl⟩ : ∃ F', F = F' + 1 := ⟨F - 1, by omega⟩
    obtain ⟨v', h1⟩ := ih F (x + 1) (cond (decide ((w64 (2 * (ones x : Int))) > (n : Int))) (bits .or .i64 v (shlI .i64 1 (x : Int))) v) (by omega) (by omega)
    refine ⟨v', fun k0 => Eq.trans ?_ (h1 k0)⟩
    show zj35 N (n : Int) v (x : Int) b c4 c5 c6 c7 _ k0 = _
    unfold zj35
    rw [shl_one n (by omega), decide_eq_true (by omega : (0 : Int) ≤ (n : Int)), gd_true rfl, decide_eq_true (by omega : (x : Int) < ((2 ^ n : Nat) : Int)), cond_true, spec_l2Count_eq N x hN (by omega), decide_eq_true (by omega : (0 : Int) ≤ (x : Int)), gd_true rfl, w64_succ x (by omega)]
    cases (decide ((w64 (2 * (ones x : Int))) > (n : Int))) <;> rfl
theorem draw_l5 (N n : Nat) (hN : 64 < N) (hn : n ≤ 5) (b : List Int) (c4 c5 c6 c7 : Int) : ∀ (d F x : Nat) (v : Int), x + d = 2 ^ n → d < F →
    ∃ v' : Int, ∀ k0 : Int → Int → List Int → Int → Int → Int → Int → Option β, zj38 N F (n : Int) v (x : Int) b c4 c5 c6 c7 k0 = k0 (n : Int) v' b c4 c5 c6 c7 := by
  have hs := size_le hn
  intro d
  induction d with
  | zero =>
    intro F x v hd hF
    obtain ⟨F, rfl⟩ : ∃ F', F = F' + 1 := ⟨F - 1, by omega⟩
    refine ⟨v, fun k0 => ?_⟩
    show zj37 N (n : Int) v (x : Int) b c4 c5 c6 c7 _ k0 = _
    unfold zj37
    rw [shl_one n (by omega), decide_eq_true (by omega : (0 : Int) ≤ (n : Int)), gd_true rfl, decide_eq_false (by omega : ¬ (x : Int) < ((2 ^ n : Nat) : Int)), cond_false]
  | succ d ih =>
    intro F x v hd hF
    obtain ⟨F, rfl⟩ : ∃ F', F = F' + 1 := ⟨F - 1, by omega⟩
    obtain ⟨v', h1⟩ := ih F (x + 1) (cond (remI (ones x : Int) 2 == 1) (bits .or .i64 v (shlI .i64 1 (x : Int))) v) (by omega) (by omega)
    refine ⟨v', fun k0 => Eq.trans ?_ (h1 k0)⟩
    show zj37 N (n : Int) v (x : Int) b c4 c5 c6 c7 _ k0 = _
    unfold zj37
    rw [shl_one n (by omega), decide_eq_true (by omega : (0 : Int) ≤ (n : Int)), gd_true rfl, decide_eq_true (by omega : (x : Int) < ((2 ^ n : Nat) : Int)), cond_true, spec_l2Count_eq N x hN (by omega), decide_eq_true (by omega : (0 : Int) ≤ (x : Int)), gd_true rfl, w64_succ x (by omega)]
    cases (remI (ones x : Int) 2 == 1) <;> rfl
theorem draw_l7 (N n : Nat) (hn : n ≤ 5) (y : Int) (b : List Int) (c4 c5 c6 c7 : Int) : ∀ (d F x : Nat) (v : Int), x + d = 2 ^ n → d < F →
    ∃ v' : Int, ∀ k0 : Int → Int → List Int → Int → Int → Int → Int → Option β, zj40 N F (n : Int) v y (x : Int) b c4 c5 c6 c7 k0 = k0 (n : Int) v' b c4 c5 c6 c7 := by
  have hs := size_le hn
  intro d
  induction d with
  | zero =>
    intro F x v hd hF
    obtain ⟨F, rfl⟩ : ∃ F', F = F' + 1 := ⟨F - 1, by omega⟩
    refine ⟨v, fun k0 => ?_⟩
    show zj39 N (n : Int) v y (x : Int) b c4 c5 c6 c7 _ k0 = _
    unfold zj39
    rw [shl_one n (by omega), decide_eq_true (by omega : (0 : Int) ≤ (n : Int)), gd_true rfl, decide_eq_false (by omega : ¬ (x : Int) < ((2 ^ n : Nat) : Int)), cond_false]
  | succ d ih =>
    intro F x v hd hF
    obtain ⟨F, rfl⟩ : ∃ F', F = F' + 1 := ⟨F - 1, by omega⟩
    obtain ⟨v', h1⟩ := ih F (x + 1) (cond (bits .and .i64 (x : Int) y == y) (bits .or .i64 v (shlI .i64 1 (x : Int))) v) (by omega) (by omega)
    refine ⟨v', fun k0 => Eq.trans ?_ (h1 k0)⟩
    show zj39 N (n : Int) v y (x : Int) b c4 c5 c6 c7 _ k0 = _
    unfold zj39
    rw [shl_one n (by omega), decide_eq_true (by omega : (0 : Int) ≤ (n : Int)), gd_true rfl, decide_eq_true (by omega : (x : Int) < ((2 ^ n : Nat) : Int)), cond_true, decide_eq_true (by omega : (0 : Int) ≤ (x : Int)), gd_true rfl, w64_succ x (by omega)]
    cases (bits .and .i64 (x : Int) y == y) <;> rfl
theorem draw_l1 (N n : Nat) (hn : n ≤ 5) (b : List Int) (hb : b.length ≤ 9223372036854775807) (c6 c7 : Int) : ∀ (d F x : Nat) (v i h : Int), 0 ≤ i → x + d = 2 ^ n → d < F →
    ∃ v' i' h' : Int, 0 ≤ i' ∧ ∀ k0 : Int → Int → List Int → Int → Int → Int → Int → Option β, zj42 N F (n : Int) v (x : Int) b i h c6 c7 k0 = k0 (n : Int) v' b i' h' c6 c7 := by
  have hs := size_le hn
  intro d
  induction d with
  | zero =>
    intro F x v i h h0 hd hF
    obtain ⟨F, rfl⟩ : ∃ F', F = F' + 1 := ⟨F - 1, by omega⟩
    refine ⟨v, i, h, h0, fun k0 => ?_⟩
    show zj41 N (n : Int) v (x : Int) b i h c6 c7 _ k0 = _
    unfold zj41
    rw [shl_one n (by omega), decide_eq_true (by omega : (0 : Int) ≤ (n : Int)), gd_true rfl, decide_eq_false (by omega : ¬ (x : Int) < ((2 ^ n : Nat) : Int)), cond_false]
  | succ d ih =>
    intro F x v i h h0 hd hF
    obtain ⟨F, rfl⟩ : ∃ F', F = F' + 1 := ⟨F - 1, by omega⟩
    obtain ⟨r, i1, h1, -, -, g1, g2⟩ := l1Below_ends (β := β) N 2 b i h (by decide) h0 hb
    obtain ⟨v', i', h', g3, g4⟩ := ih F (x + 1) (bits .or .i64 v (shlI .i64 (r : Int) (x : Int))) i1 h1 g1 (by omega) (by omega)
    refine ⟨v', i', h', g3, fun k0 => Eq.trans ?_ (g4 k0)⟩
    show zj41 N (n : Int) v (x : Int) b i h c6 c7 _ k0 = _
    unfold zj41
    rw [shl_one n (by omega), decide_eq_true (by omega : (0 : Int) ≤ (n : Int)), gd_true rfl, decide_eq_true (by omega : (x : Int) < ((2 ^ n : Nat) : Int)), cond_true, g2, decide_eq_true (by omega : (0 : Int) ≤ (x : Int)), gd_true rfl, w64_succ x (by omega)]

theorem l2Draw_ends (N n : Nat) (hN : 64 < N) (hn : n ≤ 5) (b : List Int) (i h : Int) (h0 : 0 ≤ i) (hb : b.length ≤ 9223372036854775807) :
    ∃ w i' h' : Int, w < 9223372036854775808 ∧ 0 ≤ i' ∧ ∀ k0 : Int → Int → List Int → Int → Int → Option β, zj43 N (n : Int) b i h k0 = k0 (n : Int) w b i' h' := by
  have hs := size_le hn
  unfold zj43
  obtain ⟨r, i1, h1, r1, -, p1, e1⟩ := l1Below_ends (β := β) N 6 b i h (by decide) h0 hb
  have fin : ∀ (v i2 h2 : Int), 0 ≤ i2 → ∃ w i' h' : Int, w < 9223372036854775808 ∧ 0 ≤ i' ∧ ∀ k0 : Int → Int → List Int → Int → Int → Option β,
      (cond ((n : Int) == 0) (zj31 N (n : Int) fun r75 => k0 (n : Int) (bits .and .i64 (bits .and .i64 v 1) r75) b i2 h2) (zj31 N (n : Int) fun r76 => k0 (n : Int) (bits .and .i64 v r76) b i2 h2)) = k0 (n : Int) w b i' h' := by
    intro v i2 h2 p2
    cases hz : ((n : Int) == 0) with
    | true => exact ⟨_, i2, h2, bits_top _ _ _, p2, fun k0 => by rw [cond_true, spec_l2Full_eq N n hn]⟩
    | false => exact ⟨_, i2, h2, bits_top _ _ _, p2, fun k0 => by rw [cond_false, spec_l2Full_eq N n hn]⟩
  simp only [e1]
  cases c0 : ((r : Int) == 0) with
  | true =>
    obtain ⟨r2, i2, h2, -, -, p2, e2⟩ := l1Below_ends (β := β) N (mxI 1 (n : Int)) b i1 h1 (by unfold mxI; split <;> omega) p1 hb
    obtain ⟨v, e3⟩ := l2Variable_ends (β := β) N n r2 hN hn
    obtain ⟨w, i', h', q1, q2, q3⟩ := fin v i2 h2 p2
    exact ⟨w, i', h', q1, q2, fun k0 => by rw [cond_true, e2, e3]; exact q3 k0⟩
  | false =>
    cases c1 : ((r : Int) == 1) with
    | true =>
      obtain ⟨v, e3⟩ := draw_l3 (β := β) N n hN hn b i1 h1 0 0 (2 ^ n) N 0 0 (by omega) (by omega)
      obtain ⟨w, i', h', q1, q2, q3⟩ := fin v i1 h1 p1
      exact ⟨w, i', h', q1, q2, fun k0 => by rw [cond_false, cond_true]; exact (e3 _).trans (q3 k0)⟩
    | false =>
      cases c2 : ((r : Int) == 2) with
      | true =>
        obtain ⟨v, e3⟩ := draw_l5 (β := β) N n hN hn b i1 h1 0 0 (2 ^ n) N 0 0 (by omega) (by omega)
        obtain ⟨w, i', h', q1, q2, q3⟩ := fin v i1 h1 p1
        exact ⟨w, i', h', q1, q2, fun k0 => by rw [cond_false, cond_false, cond_true]; exact (e3 _).trans (q3 k0)⟩
      | false =>
        cases c3 : ((r : Int) == 3) with
        | true =>
          obtain ⟨r2, i2, h2, -, -, p2, e2⟩ := l1Below_ends (β := β) N (shlI .i64 1 (n : Int)) b i1 h1 (by rw [shl_one n (by omega)]; omega) p1 hb
          obtain ⟨v, e3⟩ := draw_l7 (β := β) N n hn (r2 : Int) b i2 h2 0 0 (2 ^ n) N 0 0 (by omega) (by omega)
          obtain ⟨w, i', h', q1, q2, q3⟩ := fin v i2 h2 p2
          exact ⟨w, i', h', q1, q2, fun k0 => by rw [cond_false, cond_false, cond_false, cond_true, decide_eq_true (by omega : (0 : Int) ≤ (n : Int)), gd_true rfl, e2]; exact (e3 _).trans (q3 k0)⟩
        | false =>
          obtain ⟨v, i2, h2, p2, e3⟩ := draw_l1 (β := β) N n hn b hb 0 0 (2 ^ n) N 0 0 i1 h1 p1 (by omega) (by omega)
          obtain ⟨w, i', h', q1, q2, q3⟩ := fin v i2 h2 p2
          exact ⟨w, i', h', q1, q2, fun k0 => by rw [cond_false, cond_false, cond_false, cond_false]; exact (e3 _).trans (q3 k0)⟩

theorem l1PickInt_ends (N : Nat) (b : List Int) (i h : Int) (l : List Int) (hl : 0 < l.length) (hl2 : l.length ≤ 256) (h0 : 0 ≤ i) (hb : b.length ≤ 9223372036854775807) :
    ∃ r i' h' : Int, r ∈ l ∧ 0 ≤ i' ∧ ∀ k0 : Int → List Int → Int → Int → List Int → Option β, zj44 N b i h l k0 = k0 r b i' h' l := by
  unfold zj44
  obtain ⟨r, i1, h1, r1, -, p1, e1⟩ := l1Below_ends (β := β) N (l.length : Int) b i h (by omega) h0 hb
  have hr : r < l.length := by have := r1 (by omega); omega
  refine ⟨l[r], i1, h1, List.getElem_mem hr, p1, fun k0 => ?_⟩
  rw [e1, decide_eq_true (by omega : (0 : Int) ≤ (r : Int)), gd_true rfl, decide_eq_true (by omega : (r : Int) < (l.length : Int)), gd_true rfl, rd_nat 0 l r hr]

theorem l1Once_ends (N : Nat) (n : Int) (b : List Int) (i h : Int) (hn : n ≤ 256) (h0 : 0 ≤ i) (hb : b.length ≤ 9223372036854775807) :
    ∃ (r : Bool) (i' h' : Int), 0 ≤ i' ∧ ∀ k0 : Bool → List Int → Int → Int → Option β, zj46 N n b i h k0 = k0 r b i' h' := by
  unfold zj46
  obtain ⟨r, i1, h1, -, -, p1, e1⟩ := l1Below_ends (β := β) N n b i h hn h0 hb
  exact ⟨_, i1, h1, p1, fun k0 => e1 _⟩

theorem l2Any_ends (N : Nat) (hN : 64 < N) (b : List Int) (i h : Int) (h0 : 0 ≤ i) (hb : b.length ≤ 9223372036854775807) :
    ∃ n w i' h' : Int, w < 9223372036854775808 ∧ 0 ≤ i' ∧ ∀ k0 : Int → Int → List Int → Int → Int → Option β, zj45 N b i h k0 = k0 n w b i' h' := by
  unfold zj45
  obtain ⟨n, i1, h1, r1, -, p1, e1⟩ := l1Below_ends (β := β) N 5 b i h (by decide) h0 hb
  have hn : n ≤ 5 := by have := r1 (by decide); omega
  obtain ⟨w, i2, h2, hw, p2, e2⟩ := l2Draw_ends (β := β) N n hN hn b i1 h1 p1 hb
  obtain ⟨q, i3, h3, -, -, p3, e3⟩ := l1Below_ends (β := β) N 14 b i2 h2 (by decide) p2 hb
  simp only [e1, e2, e3]
  cases c0 : ((q : Int) == 0) with
  | true =>
    obtain ⟨r, i', h', -, q2, e4⟩ := l1PickInt_ends (β := β) N b i3 h3 (((((([] : List Int) ++ [(-1)]) ++ [6]) ++ [5]) ++ [0]) ++ [9223372036854775807]) (by decide) (by decide) p3 hb
    exact ⟨r, w, i', h', hw, q2, fun k0 => by rw [cond_true]; exact e4 _⟩
  | false =>
    cases c1 : ((q : Int) == 1) with
    | true =>
      obtain ⟨r, i', h', hr, q2, e4⟩ := l1PickInt_ends (β := β) N b i3 h3 (((((([] : List Int) ++ [(-1)]) ++ [0]) ++ [1]) ++ [65536]) ++ [9223372036854775807]) (by decide) (by decide) p3 hb
      refine ⟨n, r, i', h', ?_, q2, fun k0 => by rw [cond_false, cond_true]; exact e4 _⟩
      have : ∀ r ∈ (((((([] : List Int) ++ [(-1)]) ++ [0]) ++ [1]) ++ [65536]) ++ [9223372036854775807]), r < 9223372036854775808 := by decide
      exact this r hr
    | false => exact ⟨n, w, i3, h3, hw, p3, fun k0 => by rw [cond_false, cond_false]⟩
end Go.Proofs.YtddflpokemgnmaaGreatDoor
namespace Go.Proofs.YtddflpokemgnmaaGreatDoor
open Go.Rv
variable {β : Type}
def B (l : List UInt8) : ByteArray := ⟨l.toArray⟩
theorem B_data (s : ByteArray) : B s.data.toList = s := by cases s; simp [B]
theorem B_size (l : List UInt8) : (B l).size = l.length := by simp [B, ByteArray.size]
theorem B_inj {a b : ByteArray} (h : a.data.toList = b.data.toList) : a = b := by rw [← B_data a, ← B_data b, h]
theorem B_toList (l : List UInt8) : (B l).toList = l := Go.ByteArray.toList_mk l
theorem B_list (l : List UInt8) : (B l).data.toList = l := by simp [B]
theorem B_app (l m : List UInt8) : B l ++ B m = B (l ++ m) := by
  apply B_inj
  rw [ByteArray.toList_data_append]
  simp [B]
theorem B_ext (l : List UInt8) (a b : Nat) : (B l).extract a b = B ((l.take b).drop a) := by
  apply B_inj
  rw [ByteArray.data_extract]
  simp [B, List.drop_take, List.extract_eq_take_drop]
theorem B_nil : ByteArray.empty = B [] := rfl
theorem B_one (n : Int) : strOf (([] : List Int) ++ [n]) = B [UInt8.ofNat n.toNat] := by
  simp [strOf, B]
theorem B_strOf (l : List Int) : strOf l = B (l.map fun n => UInt8.ofNat n.toNat) := by simp [strOf, B]
theorem B_bt (l : List UInt8) (i : Nat) (h : i < l.length) : bt (B l) (i : Int) = (l[i].toNat : Int) := by
  simp [bt, B, List.getD, List.getElem?_eq_getElem h]
end Go.Proofs.YtddflpokemgnmaaGreatDoor
namespace Go.Proofs.YtddflpokemgnmaaGreatDoor
open Go.Rv
variable {β : Type}
def lf (n : Nat) : Bool := (decide (97 ≤ n) && decide (n < 102)) || (n == 48 || n == 49)
def bn (n : Nat) : Bool := n == 38 || (n == 124 || n == 94)
def wf : Tr → Prop
  | .nil => False
  | .node a b l r => b = 0 ∧ ∃ n : Nat, a = n ∧ n < 256 ∧ ((lf n = true ∧ l = .nil ∧ r = .nil) ∨ (n = 33 ∧ wf l ∧ r = .nil) ∨ (bn n = true ∧ wf l ∧ wf r))

theorem natb (n m : Nat) : ((n : Int) == (m : Int)) = (n == m) := by
  by_cases h : n = m
  · subst h; simp
  · rw [beq_eq_false_iff_ne.2 h, beq_eq_false_iff_ne.2 (by omega)]
end Go.Proofs.YtddflpokemgnmaaGreatDoor
namespace Go.Proofs.YtddflpokemgnmaaGreatDoor
open Go.Rv
variable {β : Type}
end Go.Proofs.YtddflpokemgnmaaGreatDoor
namespace Go.Proofs.YtddflpokemgnmaaGreatDoor
open Go.Rv
variable {β : Type}
theorem loop_st (g : Nat → Nat → Option β) (m : Nat) (r : Option β) (hs : ∀ F i, i < m → g (F + 1) i = g F (i + 1)) (he : ∀ F, g (F + 1) m = r) :
    ∀ (F i : Nat), i ≤ m → m - i < F → g F i = r := by
  intro F
  induction F with
  | zero => intro i _ h; omega
  | succ F ih =>
    intro i hi hF
    rcases Nat.lt_or_ge i m with h | h
    · rw [hs F i h]; exact ih (i + 1) h (by omega)
    · have : i = m := by omega
      subst this; exact he F

def sg (m : Nat) : Int := if m % 2 = 1 then -1 else 1
def bw (w x : Nat) : Nat := if w.testBit x then 1 else 0
def tm (w u x : Nat) : Int := sg (bw w x) * sg (ones (u &&& x))
theorem wr_mid {α : Type} (p : List α) (y z : α) (r : List α) : wr (p ++ y :: r) (p.length : Int) z = p ++ z :: r := by
  simp [wr]

def en (l z : List Int) : Nat → List Int
  | 0 => z
  | i + 1 => wr (en l z i) (ones i : Int) (w64 (rd 0 (en l z i) (ones i : Int) + w64 (rd 0 l (i : Int) * rd 0 l (i : Int))))
end Go.Proofs.YtddflpokemgnmaaGreatDoor
namespace Go.Proofs.YtddflpokemgnmaaGreatDoor
open Go.Rv
variable {β : Type}
theorem w8_small (n : Nat) (h : n < 256) : w8 (n : Int) = n := by
  have := IntKind.wrap_u8 (n : Int)
  show IntKind.wrap .u8 (n : Int) = n
  rw [this]
  omega

end Go.Proofs.YtddflpokemgnmaaGreatDoor
namespace Go.Proofs.YtddflpokemgnmaaGreatDoor
open Go.Rv
variable {β : Type}
theorem xor_zero {a b : Nat} (h : a ^^^ b = 0) : a = b := by
  have : a ^^^ b ^^^ b = b := by rw [h, Nat.zero_xor]
  rwa [Nat.xor_assoc, Nat.xor_self, Nat.xor_zero] at this
def R (w n i b : Nat) : Nat := tabw (fun x => w.testBit (ins x i b)) (2 ^ (n - 1))
def mono (w n i : Nat) : Bool := (R w n i 0 &&& R w n i 1) == R w n i 0
end Go.Proofs.YtddflpokemgnmaaGreatDoor
namespace Go.Proofs.YtddflpokemgnmaaGreatDoor
open Go.Rv
variable {β : Type}
end Go.Proofs.YtddflpokemgnmaaGreatDoor
namespace Go.Proofs.YtddflpokemgnmaaGreatDoor
open Go.Rv
variable {β : Type}
end Go.Proofs.YtddflpokemgnmaaGreatDoor
