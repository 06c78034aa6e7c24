/- Plain laws of the texts. -/
import Derived.Test.YtmhlcbibbhelkaaDoorT0
import Derived.Test.YtmhlcbibbhelkaaDoorRvNum
import Derived.Test.YtmhlcbibbhelkaaDoorSizW
import Derived.Lib.Join
import Derived.Lib.IndexBytes
namespace Go.Proofs.YtmhlcbibbhelkaaDoor
open Go.Rv

variable {β : Type}
def eqStep (l m : List Int) (i : Int) (rec_ : Int → Option β) (k0 : Bool → Option β) (k1 : Option β) : Option β :=
  cond (decide (i < (l.length : Int))) (gd (decide (0 ≤ i)) (gd (decide (i < (l.length : Int))) (gd (decide (0 ≤ i)) (gd (decide (i < (m.length : Int))) (cond (rd 0 l i != rd 0 m i) (k0 false) (rec_ (w64 (i + 1)))))))) k1

theorem eq_loop (l m : List Int) (hl : l.length ≤ 1048576) (hlm : l.length = m.length) (k0 : Bool → Option β) (k1 : Option β) (g : Nat → Int → Option β) (hg : ∀ F i, g (F + 1) i = eqStep l m i (g F) k0 k1) :
    ∀ (F i : Nat), l.length - i < F → i ≤ l.length → g F (i : Int) = cond (l.drop i == m.drop i) k1 (k0 false) := by
  intro F
  induction F with
  | zero => intro i h; omega
  | succ F ih =>
    intro i hF hi
    rw [hg]
    unfold eqStep
    by_cases hlt : i < l.length
    · have hlt' : i < m.length := by omega
      rw [decide_eq_true (by omega : (i : Int) < (l.length : Int)), decide_eq_true (by omega : 0 ≤ (i : Int)), decide_eq_true (by omega : (i : Int) < (m.length : Int)), rd_nat 0 l i hlt, rd_nat 0 m i hlt']
      simp only [cond_true, gd]
      have hd : (l.drop i == m.drop i) = (l[i] == m[i] && l.drop (i + 1) == m.drop (i + 1)) := by
        rw [List.drop_eq_getElem_cons hlt, List.drop_eq_getElem_cons hlt']; rfl
      rw [hd]
      by_cases he : l[i] = m[i]
      · rw [show w64 ((i : Int) + 1) = ((i + 1 : Nat) : Int) by rw [w64_id] <;> omega, ih (i + 1) (by omega) (by omega)]
        rw [show (l[i] != m[i]) = false by simp [he], show (l[i] == m[i]) = true by simp [he]]
        rfl
      · rw [show (l[i] != m[i]) = true by simp [he], show (l[i] == m[i]) = false by simp [he]]
        rfl
    · rw [decide_eq_false (by omega : ¬ (i : Int) < (l.length : Int)), List.drop_eq_nil_of_le (by omega), List.drop_eq_nil_of_le (by omega)]
      rfl

theorem laws_eqIntS_eq (N : Nat) (l m : List Int) (hl : l.length ≤ 1048576) (hN : 1048576 < N) (k : Bool → Option β) : zj55 N l m k = k (l == m) := by
  unfold zj55
  by_cases h : l.length = m.length
  · rw [show ((l.length : Int) != (m.length : Int)) = false by simp [h]]
    simp only [cond_false]
    have := eq_loop l m hl h k (k true) (fun F i => zj54 N F l m i k (k true)) (fun F i => rfl) N 0 (by omega) (by omega)
    simp only [List.drop_zero] at this
    refine this.trans ?_
    cases l == m <;> rfl
  · rw [show ((l.length : Int) != (m.length : Int)) = true by simp; omega]
    simp only [cond_true]
    rw [show (l == m) = false by simp; intro e; exact h (by rw [e])]
end Go.Proofs.YtmhlcbibbhelkaaDoor
namespace Go.Proofs.YtmhlcbibbhelkaaDoor
open Go.Rv
variable {β : Type}
theorem laws_eqClaim_same (N : Nat) (a0 a1 a2 a3 a4 : Int) (s : ByteArray) (l : List Int) (hl : l.length ≤ 1048576) (hN : 1048576 < N) (k : Bool → Option β) : zj56 N a0 a1 a2 a3 a4 s l a0 a1 a2 a3 a4 s l k = k true := by
  unfold zj56 zj52
  simp [laws_eqIntS_eq N l l hl hN]
end Go.Proofs.YtmhlcbibbhelkaaDoor
namespace Go.Proofs.YtmhlcbibbhelkaaDoor
open Go.Rv
set_option linter.unusedVariables false
variable {β : Type}
def tabw (g : Nat → Bool) : Nat → Nat
  | 0 => 0
  | i + 1 => tabw g i ||| (if g i then 2 ^ i else 0)
theorem tabw_lt (g : Nat → Bool) : ∀ i, tabw g i < 2 ^ i
  | 0 => by simp [tabw]
  | i + 1 => by
    have := tabw_lt g i
    unfold tabw
    have h2 : 2 ^ (i + 1) = 2 ^ i + 2 ^ i := by rw [Nat.pow_succ]; omega
    refine Nat.or_lt_two_pow (by omega) ?_
    split
    · have := Nat.two_pow_pos i; omega
    · exact Nat.two_pow_pos _
theorem tabw_congr {g h : Nat → Bool} : ∀ {n : Nat}, (∀ i, i < n → g i = h i) → tabw g n = tabw h n
  | 0, _ => rfl
  | n + 1, e => by
    unfold tabw
    rw [tabw_congr (n := n) fun i hi => e i (by omega), e n (by omega)]

theorem pow_le_64 {n : Nat} (h : n ≤ 62) : 2 ^ n < 9223372036854775808 := Nat.lt_of_le_of_lt (Nat.pow_le_pow_right (by decide) h) (by decide)
theorem size_le {n : Nat} (h : n ≤ 5) : 2 ^ n ≤ 32 := Nat.le_trans (Nat.pow_le_pow_right (by decide) h) (by decide)

theorem shl_one (n : Nat) (h : n ≤ 62) : shlI .i64 1 (n : Int) = ((2 ^ n : Nat) : Int) := by
  have := shl_nat 1 n (by omega) (by rw [Nat.one_mul]; exact pow_le_64 h)
  rw [Nat.one_mul] at this
  exact this

theorem makeTable_loop (N : Nat) (h : Int → (Bool → Option β) → Option β) (g : Nat → Bool) (m : Nat) (hm : m ≤ 32) (hh : ∀ (x : Nat) k, x < m → h (x : Int) k = k (g x)) (k0 : Int → Int → Int → Int → Option β) (a b n : Int) :
    ∀ (F i : Nat), m - i < F → i ≤ m → zj2 N h F (m : Int) (i : Int) a b n (tabw g i : Int) k0 = k0 a b n (tabw g m : Int) := by
  intro F
  induction F with
  | zero => intro i hF; omega
  | succ F ih =>
    intro i hF hi
    simp only [zj2, zj1]
    by_cases hlt : i < m
    · rw [decide_eq_true (by omega : (i : Int) < (m : Int))]
      simp only [cond_true, hh i _ hlt]
      have h1 := ih (i + 1) (by omega) (by omega)
      rw [w64_succ i (by omega)]
      have hw : tabw g i < 2 ^ 63 := Nat.lt_of_lt_of_le (tabw_lt g i) (Nat.pow_le_pow_right (by decide) (by omega))
      cases hg : g i with
      | true =>
        have e : tabw g (i + 1) = tabw g i ||| 2 ^ i := by simp [tabw, hg]
        rw [e] at h1
        simp only [cond_true, gd_true (decide_eq_true (by omega : 0 ≤ (i : Int)))]
        rw [shl_one i (by omega), bOr _ _ hw (Nat.pow_lt_pow_right (by decide) (by omega))]
        exact h1
      | false =>
        have e : tabw g (i + 1) = tabw g i := by simp [tabw, hg]
        rw [e] at h1
        exact h1
    · have : i = m := by omega
      subst this
      rw [decide_eq_false (by omega : ¬ (i : Int) < (i : Int))]
      rfl

theorem makeTable_eq (N : Nat) (hN : 64 < N) (n : Nat) (hn : n ≤ 5) (h : Int → (Bool → Option β) → Option β) (g : Nat → Bool) (hh : ∀ (x : Nat) k, x < 2 ^ n → h (x : Int) k = k (g x)) (k : Int → Int → Option β) :
    zj3 N (n : Int) h k = k n (tabw g (2 ^ n) : Int) := by
  unfold zj3
  rw [gd_true (decide_eq_true (by omega)), shl_one n (by omega)]
  have := size_le hn
  exact makeTable_loop N h g (2 ^ n) this hh (fun _ _ e2 e3 => k e2 e3) 0 0 n N 0 (by omega) (Nat.zero_le _)

def ys (x i b : Nat) : Nat := x - (x &&& 2 ^ i) + b * 2 ^ i
theorem bit_at (w y : Nat) (hw : w < 9223372036854775808) : bits .and .i64 (shrI .i64 (w : Int) (y : Int)) 1 = ((if w.testBit y then 1 else 0 : Nat) : Int) := by
  rw [shr_nat w y hw]
  have h1 : w / 2 ^ y < 2 ^ 63 := Nat.lt_of_le_of_lt (Nat.div_le_self _ _) hw
  have := bAnd (w / 2 ^ y) 1 h1 (by decide)
  rw [show ((1 : Nat) : Int) = 1 from rfl] at this
  rw [this, Nat.and_one_is_mod]
  congr 1
  rw [Nat.testBit, Nat.shiftRight_eq_div_pow, Nat.and_comm, Nat.and_one_is_mod]
  have := Nat.mod_two_eq_zero_or_one (w / 2 ^ y)
  rcases this with h | h <;> simp [h]

def isT (a0 a1 : Int) : Bool := decide (0 ≤ a0) && decide (a0 ≤ 5) && decide (0 ≤ a1) && decide (a1 < 2 ^ 2 ^ a0.toNat)

theorem isT_nat {a0 a1 : Int} (h : isT a0 a1 = true) : ∃ n w : Nat, a0 = n ∧ a1 = w ∧ n ≤ 5 ∧ w < 2 ^ 2 ^ n ∧ w < 4294967296 := by
  simp only [isT, Bool.and_eq_true, decide_eq_true_eq] at h
  obtain ⟨⟨⟨h1, h2⟩, h3⟩, h4⟩ := h
  obtain ⟨n, rfl⟩ := Int.eq_ofNat_of_zero_le h1
  obtain ⟨w, rfl⟩ := Int.eq_ofNat_of_zero_le h3
  simp only [Int.toNat_natCast] at h4
  have h5 : w < 2 ^ 2 ^ n := by exact_mod_cast h4
  have h6 : 2 ^ 2 ^ n ≤ 2 ^ 32 := Nat.pow_le_pow_right (by decide) (size_le (by omega))
  exact ⟨n, w, rfl, rfl, by omega, h5, by omega⟩

theorem shl_u64 : ∀ n : Nat, n ≤ 5 → shlI .u64 1 (n : Int) = ((2 ^ n : Nat) : Int) := by decide +kernel

theorem spec_IsTable_eq (N : Nat) (a0 a1 : Int) (k : Bool → Option β) : zj14 N a0 a1 k = k (isT a0 a1) := by
  unfold zj14 zj13
  by_cases h0 : 0 ≤ a0
  · rw [decide_eq_true (by omega : a0 ≥ 0)]
    simp only [cond_true]
    by_cases h5 : a0 ≤ 5
    · rw [decide_eq_true h5]
      obtain ⟨n, rfl⟩ := Int.eq_ofNat_of_zero_le h0
      have hn : n ≤ 5 := by omega
      have hs := size_le hn
      have hp := pow_le_64 (n := 2 ^ n) (by omega)
      have hpos := Nat.two_pow_pos (2 ^ n)
      simp only [cond_true]
      rw [gd_true rfl, shl_u64 n hn, gd_true (decide_eq_true (Int.natCast_nonneg _)), shl_one (2 ^ n) (by omega), w64_id (by omega) (by omega)]
      have e : isT (n : Int) a1 = (decide (0 ≤ a1) && decide (a1 < ((2 ^ 2 ^ n : Nat) : Int))) := by
        simp only [isT, Int.toNat_natCast, decide_eq_true (by omega : 0 ≤ (n : Int)), decide_eq_true (by omega : (n : Int) ≤ 5), Bool.true_and]
        push_cast
        rfl
      rw [e]
      by_cases h1 : 0 ≤ a1
      · rw [decide_eq_true (by omega : a1 ≥ 0)]
        simp only [cond_true, Bool.true_and]
        congr 1
        exact decide_eq_decide.2 (by omega)
      · rw [decide_eq_false (by omega : ¬ a1 ≥ 0)]; rfl
    · rw [decide_eq_false h5]
      simp [isT, h5]
  · rw [decide_eq_false (by omega : ¬ a0 ≥ 0)]
    simp [isT, h0]

theorem impl_IsTable_eq (N : Nat) (a0 a1 : Int) (h : a1 < 9223372036854775808) (k : Bool → Option β) : zj32 N a0 a1 k = k (isT a0 a1) := by
  unfold zj32 zj30 zj31
  by_cases h0 : 0 ≤ a0
  · rw [decide_eq_true (by omega : a0 ≥ 0)]
    simp only [cond_true]
    by_cases h5 : a0 ≤ 5
    · rw [decide_eq_true h5]
      obtain ⟨n, rfl⟩ := Int.eq_ofNat_of_zero_le h0
      have hn : n ≤ 5 := by omega
      have hs := size_le hn
      have hpos := Nat.two_pow_pos (2 ^ n)
      simp only [cond_true]
      rw [gd_true rfl]
      have e : isT (n : Int) a1 = (decide (0 ≤ a1) && decide (a1 < ((2 ^ 2 ^ n : Nat) : Int))) := by
        simp only [isT, Int.toNat_natCast, decide_eq_true (by omega : 0 ≤ (n : Int)), decide_eq_true (by omega : (n : Int) ≤ 5), Bool.true_and]
        push_cast
        rfl
      rw [e]
      by_cases h1 : 0 ≤ a1
      · obtain ⟨w, rfl⟩ := Int.eq_ofNat_of_zero_le h1
        rw [decide_eq_true (by omega : (w : Int) ≥ 0), shl_one n (by omega)]
        simp only [cond_true, Bool.true_and]
        rw [gd_true (decide_eq_true (Int.natCast_nonneg _)), shr_nat w (2 ^ n) (by omega)]
        congr 1
        have : w / 2 ^ 2 ^ n = 0 ↔ w < 2 ^ 2 ^ n := by
          rw [Nat.div_eq_zero_iff]
          omega
        by_cases hw : w < 2 ^ 2 ^ n
        · rw [this.2 hw, decide_eq_true (by omega)]; rfl
        · rw [decide_eq_false (by omega)]
          have : ¬ w / 2 ^ 2 ^ n = 0 := fun h => hw (this.1 h)
          simp only [beq_eq_false_iff_ne, ne_eq]
          omega
      · rw [decide_eq_false (by omega : ¬ a1 ≥ 0)]; rfl
    · rw [decide_eq_false h5]
      simp [isT, h5]
  · rw [decide_eq_false (by omega : ¬ a0 ≥ 0)]
    simp [isT, h0]
end Go.Proofs.YtmhlcbibbhelkaaDoor
namespace Go.Proofs.YtmhlcbibbhelkaaDoor
open Go.Rv
set_option linter.unusedVariables false
variable {β : Type}
theorem tabw_bit (g : Nat → Bool) : ∀ (n x : Nat), (tabw g n).testBit x = (decide (x < n) && g x)
  | 0, x => by simp [tabw]
  | n + 1, x => by
    unfold tabw
    rw [Nat.testBit_or, tabw_bit g n x]
    by_cases hx : x = n
    · subst hx
      cases hg : g x <;> simp [Nat.testBit_two_pow_self]
    · have h1 : (if g n then 2 ^ n else 0 : Nat).testBit x = false := by
        split
        · exact Nat.testBit_two_pow_of_ne (Ne.symm hx)
        · exact Nat.zero_testBit _
      rw [h1, Bool.or_false]
      congr 1
      exact decide_eq_decide.2 (by omega)

theorem tabw_eq_iff (g h : Nat → Bool) (n : Nat) : tabw g n = tabw h n ↔ ∀ x, x < n → g x = h x := by
  refine ⟨fun e x hx => ?_, fun e => tabw_congr e⟩
  have := congrArg (fun t => t.testBit x) e
  simpa [tabw_bit, hx] using this

theorem tabw_self (w n : Nat) (h : w < 2 ^ n) : tabw w.testBit n = w := by
  apply Nat.eq_of_testBit_eq
  intro x
  rw [tabw_bit]
  by_cases hx : x < n
  · simp [hx]
  · have : w.testBit x = false := Nat.testBit_lt_two_pow (Nat.lt_of_lt_of_le h (Nat.pow_le_pow_right (by decide) (by omega)))
    simp [hx, this]

def ins (x i b : Nat) : Nat := (x / 2 ^ i) * 2 ^ (i + 1) ||| b * 2 ^ i ||| (x &&& (2 ^ i - 1))
def del (x i : Nat) : Nat := (x / 2 ^ (i + 1)) * 2 ^ i ||| (x &&& (2 ^ i - 1))
theorem del_ins : ∀ n, n ≤ 5 → ∀ i, i < n → ∀ x, x < 2 ^ n → del x i < 2 ^ (n - 1) ∧ ins (del x i) i (x / 2 ^ i % 2) = x ∧ ∀ b, b < 2 → ys x i b = ins (del x i) i b := by decide +kernel
theorem ins_lt1 : ∀ n, n ≤ 5 → ∀ i, i < n → ∀ x, x < 2 ^ (n - 1) → ins x i 0 < 2 ^ n ∧ ins x i 1 < 2 ^ n := by decide +kernel
theorem ins_ys : ∀ n, n ≤ 5 → ∀ i, i < n → ∀ x, x < 2 ^ (n - 1) → ys (ins x i 0) i 0 = ins x i 0 ∧ ys (ins x i 0) i 1 = ins x i 1 ∧ ys (ins x i 1) i 0 = ins x i 0 ∧ ys (ins x i 1) i 1 = ins x i 1 := by decide +kernel
theorem ins_lt (n : Nat) (hn : n ≤ 5) (i : Nat) (hi : i < n) (x : Nat) (hx : x < 2 ^ (n - 1)) (b : Nat) (hb : b < 2) : ins x i b < 2 ^ n ∧ ∀ c, c < 2 → ys (ins x i c) i b = ins x i b := by
  obtain ⟨h1, h2⟩ := ins_lt1 n hn i hi x hx
  obtain ⟨h3, h4, h5, h6⟩ := ins_ys n hn i hi x hx
  have hb' : b = 0 ∨ b = 1 := by omega
  rcases hb' with rfl | rfl
  · exact ⟨h1, fun c hc => by have hc' : c = 0 ∨ c = 1 := by omega
                              rcases hc' with rfl | rfl <;> assumption⟩
  · exact ⟨h2, fun c hc => by have hc' : c = 0 ∨ c = 1 := by omega
                              rcases hc' with rfl | rfl <;> assumption⟩

def dep (w n i : Nat) : Bool := tabw (fun x => w.testBit (ins x i 0)) (2 ^ (n - 1)) != tabw (fun x => w.testBit (ins x i 1)) (2 ^ (n - 1))

theorem stuck_same (w n i b : Nat) (hn : n ≤ 5) (hi : i < n) (hb : b < 2) (hw : w < 2 ^ 2 ^ n) : (tabw (fun x => w.testBit (ys x i b)) (2 ^ n) == w) = !dep w n i := by
  have key : tabw (fun x => w.testBit (ys x i b)) (2 ^ n) = w ↔ tabw (fun x => w.testBit (ins x i 0)) (2 ^ (n - 1)) = tabw (fun x => w.testBit (ins x i 1)) (2 ^ (n - 1)) := by
    conv => lhs; rhs; rw [← tabw_self w (2 ^ n) hw]
    rw [tabw_eq_iff, tabw_eq_iff]
    constructor
    · intro h x hx
      obtain ⟨a1, a2⟩ := ins_lt n hn i hi x hx 0 (by omega)
      obtain ⟨b1, b2⟩ := ins_lt n hn i hi x hx 1 (by omega)
      have e0 := h _ a1
      have e1 := h _ b1
      have c0 := (ins_lt n hn i hi x hx b hb).2 0 (by omega)
      have c1 := (ins_lt n hn i hi x hx b hb).2 1 (by omega)
      rw [c0] at e0
      rw [c1] at e1
      rw [← e0, ← e1]
    · intro h x hx
      obtain ⟨h1, h2, h3⟩ := del_ins n hn i hi x hx
      have e := h _ h1
      rw [h3 b hb]
      conv => rhs; rw [← h2]
      have hc : x / 2 ^ i % 2 = 0 ∨ x / 2 ^ i % 2 = 1 := by omega
      have hb' : b = 0 ∨ b = 1 := by omega
      rcases hc with hc | hc <;> rcases hb' with rfl | rfl <;> rw [hc] <;> simp only [e]
  unfold dep
  by_cases h : tabw (fun x => w.testBit (ys x i b)) (2 ^ n) = w
  · rw [beq_iff_eq.2 h]
    simp [key.1 h]
  · rw [beq_eq_false_iff_ne.2 h]
    rw [bne_iff_ne.2 fun e => h (key.2 e)]
    rfl

def vars (w n m : Nat) : List Int := ((List.range m).filter fun i => dep w n i).map Int.ofNat
end Go.Proofs.YtmhlcbibbhelkaaDoor
namespace Go.Proofs.YtmhlcbibbhelkaaDoor
open Go.Rv
set_option linter.unusedVariables false
variable {β : Type}
theorem detects (w n i b : Nat) (hn : n ≤ 5) (hi : i < n) (hb : b < 2) (hw : w < 2 ^ 2 ^ n) : (((w ^^^ tabw (fun x => w.testBit (ys x i b)) (2 ^ n) : Nat) : Int) != 0) = dep w n i := by
  have h := stuck_same w n i b hn hi hb hw
  cases hd : dep w n i with
  | true =>
    rw [hd] at h
    have h1 : ¬ tabw (fun x => w.testBit (ys x i b)) (2 ^ n) = w := by simpa using h
    rw [bne_iff_ne]
    intro e
    have : w ^^^ tabw (fun x => w.testBit (ys x i b)) (2 ^ n) = 0 := by exact_mod_cast e
    refine h1 (Nat.eq_of_testBit_eq fun j => ?_)
    have := congrArg (fun t => t.testBit j) this
    simp only [Nat.testBit_xor, Nat.zero_testBit] at this
    revert this
    cases w.testBit j <;> cases (tabw (fun x => w.testBit (ys x i b)) (2 ^ n)).testBit j <;> simp
  | false =>
    rw [hd] at h
    have h1 : tabw (fun x => w.testBit (ys x i b)) (2 ^ n) = w := by simpa using h
    rw [h1, Nat.xor_self]
    rfl
end Go.Proofs.YtmhlcbibbhelkaaDoor
namespace Go.Proofs.YtmhlcbibbhelkaaDoor
open Go.Rv
set_option linter.unusedVariables false
variable {β : Type}
def marks (a n : Nat) : List Int := (List.range n).map fun i => ((a + i : Nat) : Int)
theorem marks_len (a n : Nat) : (marks a n).length = n := by simp [marks]
theorem marks_get (a n i : Nat) (h : i < n) : (marks a n)[i]? = some ((a + i : Nat) : Int) := by simp [marks, h]

theorem laws_markIntS_eq (N : Nat) (l : List Int) (a : Nat) (hl : l.length ≤ 1048576) (ha : a ≤ 4194304) (hN : 1048576 < N) (k : Int → List Int → Option β) :
    zj63 N l (a : Int) k = k ((a + l.length : Nat) : Int) (marks a l.length) := by
  have key : ∀ (F i : Nat) (m : List Int), l.length - i < F → i ≤ l.length → m.length = l.length → (∀ j, j < i → m[j]? = (marks a l.length)[j]?) →
      zj62 N F ((a + i : Nat) : Int) (i : Int) m k = k ((a + l.length : Nat) : Int) (marks a l.length) := by
    intro F
    induction F with
    | zero => intro i m h; omega
    | succ F ih =>
      intro i m hF hi hm heq
      simp only [zj62, zj61]
      by_cases hlt : i < l.length
      · rw [decide_eq_true (by omega : (i : Int) < (m.length : Int)), decide_eq_true (by omega : 0 ≤ (i : Int))]
        simp only [cond_true, gd]
        rw [w64_succ i (by omega), w64_succ (a + i) (by omega)]
        refine ih (i + 1) _ (by omega) (by omega) (by simp [wr, hm]) fun j hj => ?_
        simp only [wr, Int.toNat_natCast, List.getElem?_set]
        by_cases hij : i = j
        · subst hij
          have : i < m.length := by omega
          simp [this, marks_get a l.length i hlt]
        · simp only [hij, if_false]
          exact heq j (by omega)
      · rw [decide_eq_false (by omega : ¬ (i : Int) < (m.length : Int))]
        have : i = l.length := by omega
        subst this
        simp only [cond_false]
        congr 1
        apply List.ext_getElem?
        intro j
        rcases Nat.lt_or_ge j l.length with h | h
        · exact heq j h
        · rw [List.getElem?_eq_none (by omega), List.getElem?_eq_none (by rw [marks_len]; omega)]
  exact key N 0 l (by omega) (Nat.zero_le _) rfl (fun j hj => by omega)

theorem laws_heldIntS_eq (N a n : Nat) (hn : n ≤ 1048576) (ha : a ≤ 1048576) (hN : 1048576 < N) (k : Int → Option β) :
    zj59 N (marks a n) (a : Int) k = k ((a + n : Nat) : Int) := by
  have key : ∀ (F i : Nat), n - i < F → i ≤ n → zj58 N F (marks a n) ((a + i : Nat) : Int) (i : Int) k k = k ((a + n : Nat) : Int) := by
    intro F
    induction F with
    | zero => intro i h; omega
    | succ F ih =>
      intro i hF hi
      simp only [zj58, zj57, marks_len]
      by_cases hlt : i < n
      · rw [decide_eq_true (by omega : (i : Int) < (n : Int)), decide_eq_true (by omega : 0 ≤ (i : Int))]
        have hlt' : i < (marks a n).length := by rw [marks_len]; exact hlt
        have hg : (marks a n)[i] = ((a + i : Nat) : Int) := by
          have := marks_get a n i hlt
          rw [List.getElem?_eq_getElem hlt'] at this
          simpa using this
        simp only [cond_true, gd]
        rw [rd_nat 0 _ i hlt', hg, w64_succ i (by omega), w64_succ (a + i) (by omega)]
        simp only [bne_self_eq_false, cond_false]
        exact ih (i + 1) (by omega) (by omega)
      · rw [decide_eq_false (by omega : ¬ (i : Int) < (n : Int))]
        have : i = n := by omega
        subst this
        rfl
  exact key N 0 (by omega) (Nat.zero_le _)
end Go.Proofs.YtmhlcbibbhelkaaDoor
namespace Go.Proofs.YtmhlcbibbhelkaaDoor
open Go.Rv
set_option linter.unusedVariables false
variable {β : Type}
def sees (w n x i b : Nat) : Bool := (w ^^^ tabw (fun x => w.testBit (ys x i b)) (2 ^ n)).testBit x
def addIf (c : Bool) (l : List Int) (v : Int) : List Int := if c then l ++ [v] else l
def seen (w n x : Nat) : Nat → List Int
  | 0 => []
  | i + 1 => addIf (sees w n x i 1) (addIf (sees w n x i 0) (seen w n x i) ((2 * i : Nat) : Int)) ((2 * i + 1 : Nat) : Int)
end Go.Proofs.YtmhlcbibbhelkaaDoor
namespace Go.Proofs.YtmhlcbibbhelkaaDoor
open Go.Rv
set_option linter.unusedVariables false
variable {β : Type}
def addAll (s : Nat) (l : List Int) : Nat := l.foldl (fun s x => s ||| 2 ^ x.toNat) s

end Go.Proofs.YtmhlcbibbhelkaaDoor
namespace Go.Proofs.YtmhlcbibbhelkaaDoor
open Go.Rv
set_option linter.unusedVariables false
variable {β : Type}
def pc : Nat → Nat → Nat
  | 0, _ => 0
  | f + 1, w => w % 2 + pc f (w / 2)
def ones (w : Nat) : Nat := pc 32 w
def q1 (c : Nat) : Nat := (c / 2 &&& 85) + (c &&& 85)
def q2 (c : Nat) : Nat := (c / 4 &&& 51) + (c &&& 51)
def q3 (c : Nat) : Nat := (c / 16 + c) &&& 15
def g1 (a : Int) : Int := wu64 (bits .and .u64 (shrI .u64 a 1) 6148914691236517205 + bits .and .u64 a 6148914691236517205)
def g2 (a : Int) : Int := wu64 (bits .and .u64 (shrI .u64 a 2) 3689348814741910323 + bits .and .u64 a 3689348814741910323)
def g3 (a : Int) : Int := bits .and .u64 (wu64 (shrI .u64 a 4 + a)) 1085102592571150095
def g4 (a : Int) : Int := wu64 (a + shrI .u64 a 8)
end Go.Proofs.YtmhlcbibbhelkaaDoor
namespace Go.Proofs.YtmhlcbibbhelkaaDoor
open Go.Rv
set_option linter.unusedVariables false
variable {β : Type}
def cnt (g : Nat → Bool) : Nat → Nat
  | 0 => 0
  | m + 1 => cnt g m + (if g m then 1 else 0)
def edge (w i x : Nat) : Bool := w.testBit x != w.testBit (x ^^^ 2 ^ i)
end Go.Proofs.YtmhlcbibbhelkaaDoor
namespace Go.Proofs.YtmhlcbibbhelkaaDoor
open Go.Rv
set_option linter.unusedVariables false
set_option maxRecDepth 100000
variable {β : Type}
def flips (w : Nat) (l : List Int) : Nat := l.foldl (fun w x => w ^^^ 2 ^ x.toNat) w
end Go.Proofs.YtmhlcbibbhelkaaDoor
namespace Go.Proofs.YtmhlcbibbhelkaaDoor
open Go.Rv
set_option linter.unusedVariables false
variable {β : Type}
theorem spec_l2Full_eq (N n : Nat) (hn : n ≤ 5) (k : Int → Option β) : zj15 N (n : Int) k = k ((2 ^ 2 ^ n - 1 : Nat) : Int) := by
  have hs := size_le hn
  have hp : 2 ^ 2 ^ n < 9223372036854775808 := pow_le_64 (by omega)
  have h1 := Nat.two_pow_pos (2 ^ n)
  unfold zj15
  rw [shl_u64 n hn, shl_one (2 ^ n) (by omega), decide_eq_true (by omega : (0 : Int) ≤ (n : Int)), decide_eq_true (Int.natCast_nonneg (2 ^ n)), gd_true rfl, gd_true rfl, w64_id (by omega) (by omega)]
  congr 1
  omega

theorem laws_markClaim_eq (N : Nat) (a b c d e : Int) (s : ByteArray) (l : List Int) (hl : l.length ≤ 1048576) (hN : 1048576 < N) (k : Int → List Int → Option β) :
    zj64 N a b c d e s l 1 k = k ((1 + l.length : Nat) : Int) (marks 1 l.length) := by
  unfold zj64
  exact laws_markIntS_eq N l 1 hl (by omega) hN _
theorem laws_heldClaim_eq (N : Nat) (a b c d e : Int) (s : ByteArray) (n : Nat) (hn : n ≤ 1048576) (hN : 1048576 < N) (k : Int → Option β) :
    zj60 N a b c d e s (marks 1 n) 1 k = k ((1 + n : Nat) : Int) := by
  unfold zj60
  have := laws_heldIntS_eq (β := β) N 1 n hn (by omega) hN fun r5 => cond (decide (r5 < 0)) (k (-1)) (k r5)
  simp only [Int.natCast_one] at this
  rw [this, decide_eq_false (by omega)]
  rfl
end Go.Proofs.YtmhlcbibbhelkaaDoor
namespace Go.Proofs.YtmhlcbibbhelkaaDoor
open Go.Rv
set_option linter.unusedVariables false
variable {β : Type}
end Go.Proofs.YtmhlcbibbhelkaaDoor
namespace Go.Proofs.YtmhlcbibbhelkaaDoor
open Go.Rv
variable {β : Type}
def B (l : List UInt8) : ByteArray := ⟨l.toArray⟩
theorem B_data (s : ByteArray) : B s.data.toList = s := by cases s; simp [B]
theorem B_size (l : List UInt8) : (B l).size = l.length := by simp [B, ByteArray.size]
theorem B_inj {a b : ByteArray} (h : a.data.toList = b.data.toList) : a = b := by rw [← B_data a, ← B_data b, h]
theorem B_app (l m : List UInt8) : B l ++ B m = B (l ++ m) := by
  apply B_inj
  rw [ByteArray.toList_data_append]
  simp [B]
theorem B_nil : ByteArray.empty = B [] := rfl
end Go.Proofs.YtmhlcbibbhelkaaDoor
namespace Go.Proofs.YtmhlcbibbhelkaaDoor
open Go.Rv
variable {β : Type}
def lf (n : Nat) : Bool := (decide (97 ≤ n) && decide (n < 102)) || (n == 48 || n == 49)
def bn (n : Nat) : Bool := n == 38 || (n == 124 || n == 94)
def wf : Tr → Prop
  | .nil => False
  | .node a b l r => b = 0 ∧ ∃ n : Nat, a = n ∧ n < 256 ∧ ((lf n = true ∧ l = .nil ∧ r = .nil) ∨ (n = 33 ∧ wf l ∧ r = .nil) ∨ (bn n = true ∧ wf l ∧ wf r))

theorem natb (n m : Nat) : ((n : Int) == (m : Int)) = (n == m) := by
  by_cases h : n = m
  · subst h; simp
  · rw [beq_eq_false_iff_ne.2 h, beq_eq_false_iff_ne.2 (by omega)]
end Go.Proofs.YtmhlcbibbhelkaaDoor
namespace Go.Proofs.YtmhlcbibbhelkaaDoor
open Go.Rv
variable {β : Type}
end Go.Proofs.YtmhlcbibbhelkaaDoor
namespace Go.Proofs.YtmhlcbibbhelkaaDoor
open Go.Rv
variable {β : Type}
theorem loop_st (g : Nat → Nat → Option β) (m : Nat) (r : Option β) (hs : ∀ F i, i < m → g (F + 1) i = g F (i + 1)) (he : ∀ F, g (F + 1) m = r) :
    ∀ (F i : Nat), i ≤ m → m - i < F → g F i = r := by
  intro F
  induction F with
  | zero => intro i _ h; omega
  | succ F ih =>
    intro i hi hF
    rcases Nat.lt_or_ge i m with h | h
    · rw [hs F i h]; exact ih (i + 1) h (by omega)
    · have : i = m := by omega
      subst this; exact he F

def sg (m : Nat) : Int := if m % 2 = 1 then -1 else 1
def bw (w x : Nat) : Nat := if w.testBit x then 1 else 0
def tm (w u x : Nat) : Int := sg (bw w x) * sg (ones (u &&& x))
theorem isTn {n w : Nat} (hn : n ≤ 5) (hw : w < 2 ^ 2 ^ n) : isT (n : Int) (w : Int) = true := by
  have h4 : ((w : Nat) : Int) < 2 ^ 2 ^ n := by exact_mod_cast hw
  simp only [isT, Bool.and_eq_true, decide_eq_true_eq, Int.toNat_natCast]
  exact ⟨⟨⟨by omega, by omega⟩, by omega⟩, h4⟩
theorem impl_Table_size_eq (N n : Nat) (w : Int) (hn : n ≤ 5) (k : Int → Option β) : zj31 N (n : Int) w k = k ((2 ^ n : Nat) : Int) := by
  unfold zj31
  rw [gd_true (decide_eq_true (by omega)), shl_one n (by omega)]
theorem impl_Table_at_eq (N w x : Nat) (n : Int) (hw : w < 4294967296) (k : Int → Option β) : zj36 N n (w : Int) (x : Int) k = k (bw w x : Int) := by
  unfold zj36
  rw [gd_true (decide_eq_true (by omega)), bit_at w x (by omega)]
  rfl

def en (l z : List Int) : Nat → List Int
  | 0 => z
  | i + 1 => wr (en l z i) (ones i : Int) (w64 (rd 0 (en l z i) (ones i : Int) + w64 (rd 0 l (i : Int) * rd 0 l (i : Int))))
end Go.Proofs.YtmhlcbibbhelkaaDoor
namespace Go.Proofs.YtmhlcbibbhelkaaDoor
open Go.Rv
variable {β : Type}
def in64 (n : Int) : Prop := -9223372036854775808 ≤ n ∧ n ≤ 9223372036854775807
theorem impl_FormatInt_eq (N : Nat) (n : Int) (h : in64 n) (k : ByteArray → Option β) : zj37 N n k = k (B (Lib.itoa n)) := by
  unfold zj37 strconv_Itoa
  rw [gd_true (decide_eq_true h.1), gd_true (decide_eq_true h.2)]
  rfl

end Go.Proofs.YtmhlcbibbhelkaaDoor
namespace Go.Proofs.YtmhlcbibbhelkaaDoor
open Go.Rv
variable {β : Type}
theorem zeros_in (n : Nat) : ∀ y ∈ List.replicate n (0 : Int), in64 y := by
  intro y hy
  have := (List.mem_replicate.1 hy).2
  subst this
  unfold in64; omega
end Go.Proofs.YtmhlcbibbhelkaaDoor
namespace Go.Proofs.YtmhlcbibbhelkaaDoor
open Go.Rv
variable {β : Type}
theorem bw_eq1 (w x : Nat) : ((bw w x : Int) == 1) = w.testBit x := by unfold bw; cases w.testBit x <;> rfl
theorem bit_w (w x : Nat) (hw : w < 9223372036854775808) : bits .and .i64 (shrI .i64 (w : Int) (x : Int)) 1 = (bw w x : Int) := bit_at w x hw

def allTo (p : Nat → Bool) : Nat → Bool
  | 0 => true
  | m + 1 => allTo p m && p m
def R (w n i b : Nat) : Nat := tabw (fun x => w.testBit (ins x i b)) (2 ^ (n - 1))
def mono (w n i : Nat) : Bool := (R w n i 0 &&& R w n i 1) == R w n i 0
def game (w n : Nat) : Bool := allTo (mono w n) n && (!w.testBit 0 && w.testBit (2 ^ n - 1))
end Go.Proofs.YtmhlcbibbhelkaaDoor
namespace Go.Proofs.YtmhlcbibbhelkaaDoor
open Go.Rv
variable {β : Type}
def turn (w i x : Nat) : Bool := !x.testBit i && edge w i x
theorem l2Variable_eq (N n i : Nat) (hN : 64 < N) (hn : n ≤ 5) (k : Int → Option β) : zj7 N (n : Int) (i : Int) k = k (tabw (fun x => x.testBit i) (2 ^ n) : Int) := by
  have hs := size_le hn
  have hz : (0 : Int) ≤ ((2 ^ n : Nat) : Int) := Int.natCast_nonneg _
  refine loop_st (fun F x => zj6 N F (n : Int) (i : Int) (tabw (fun x => x.testBit i) x : Int) (x : Int) fun e => k e) (2 ^ n) _ (fun F x hx => ?_) (fun F => ?_) N 0 (by omega) (by omega)
  · simp only [zj6, zj5]
    have ht : tabw (fun x => x.testBit i) x < 2 ^ 63 := Nat.lt_of_lt_of_le (tabw_lt _ x) (Nat.pow_le_pow_right (by decide) (by omega))
    have hp : 2 ^ x < 2 ^ 63 := Nat.pow_lt_pow_right (by decide) (by omega)
    rw [gd_true (decide_eq_true (by omega)), shl_one n (by omega), decide_eq_true (by omega), cond_true, gd_true (decide_eq_true (by omega)), bit_w x i (by omega), bw_eq1, w64_succ x (by omega)]
    cases hxb : x.testBit i with
    | true =>
      have e : tabw (fun x => x.testBit i) (x + 1) = tabw (fun x => x.testBit i) x ||| 2 ^ x := by simp [tabw, hxb]
      rw [cond_true, gd_true (decide_eq_true (by omega)), shl_one x (by omega), bOr _ _ ht hp, e]
    | false =>
      have e : tabw (fun x => x.testBit i) (x + 1) = tabw (fun x => x.testBit i) x := by simp [tabw, hxb]
      rw [cond_false, e]
  · simp only [zj6, zj5]
    rw [gd_true (decide_eq_true (by omega)), shl_one n (by omega), decide_eq_false (by omega), cond_false]
def veto (w n i : Nat) : Bool := R w n i 0 == 0
end Go.Proofs.YtmhlcbibbhelkaaDoor
namespace Go.Proofs.YtmhlcbibbhelkaaDoor
open Go.Rv
set_option linter.unusedSimpArgs false
set_option linter.unusedSectionVars false
variable {β : Type}
def letR (n w : Nat) : Nat → Nat → Option (List UInt8)
  | 0, _ => none
  | d + 1, i => cond (w == vw n i) (some [UInt8.ofNat (97 + i)]) (cond (w == full n - vw n i) (some [33, UInt8.ofNat (97 + i)]) (letR n w d (i + 1)))
def pairB (T : List Int) (o : Bool) (w a : Nat) : Nat → Nat → Option Nat
  | 0, _ => none
  | d + 1, b => cond (decide (1 ≤ gt T b) && decide (gt T a + gt T b = gt T w) && (cond o (a &&& b) (a ||| b) == w)) (some b) (pairB T o w a d (b + 1))
def pairA (T : List Int) (o : Bool) (w L : Nat) : Nat → Nat → Option (Nat × Nat)
  | 0, _ => none
  | d + 1, a => cond (decide (1 ≤ gt T a) && decide (gt T a < gt T w)) (match pairB T o w a L 0 with | some b => some (a, b) | none => pairA T o w L d (a + 1)) (pairA T o w L d (a + 1))
def fmF (T : List Int) (n : Nat) : Nat → Nat → List UInt8
  | 0, _ => []
  | F + 1, w => cond (w == 0) [48] (cond (w == full n) [49] (match cond (decide (gt T w = 1)) (letR n w n 0) none with
    | some s => s
    | none => match pairA T true w (2 ^ 2 ^ n) (2 ^ 2 ^ n) 0 with
      | some (a, b) => 38 :: fmF T n F a ++ fmF T n F b
      | none => match pairA T false w (2 ^ 2 ^ n) (2 ^ 2 ^ n) 0 with
        | some (a, b) => 124 :: fmF T n F a ++ fmF T n F b
        | none => []))
theorem pairB_ok {T : List Int} {o : Bool} {w a b : Nat} : ∀ (d i : Nat), pairB T o w a d i = some b → 1 ≤ gt T b ∧ gt T a + gt T b = gt T w ∧ cond o (a &&& b) (a ||| b) = w ∧ i ≤ b ∧ b < i + d
  | 0, _, h => by cases h
  | d + 1, i, h => by
    unfold pairB at h
    cases hb : (decide (1 ≤ gt T i) && decide (gt T a + gt T i = gt T w) && (cond o (a &&& i) (a ||| i) == w)) with
    | true =>
      rw [hb, cond_true, Option.some.injEq] at h
      subst h
      simp only [Bool.and_eq_true, decide_eq_true_eq, beq_iff_eq] at hb
      exact ⟨hb.1.1, hb.1.2, hb.2, Nat.le_refl _, by omega⟩
    | false =>
      rw [hb, cond_false] at h
      obtain ⟨h1, h2, h3, h4, h5⟩ := pairB_ok d (i + 1) h
      exact ⟨h1, h2, h3, by omega, by omega⟩
theorem pairA_ok {T : List Int} {o : Bool} {w L a b : Nat} : ∀ (d i : Nat), pairA T o w L d i = some (a, b) → 1 ≤ gt T a ∧ gt T a < gt T w ∧ a < i + d ∧ 1 ≤ gt T b ∧ gt T a + gt T b = gt T w ∧ b < L
  | 0, _, h => by cases h
  | d + 1, i, h => by
    unfold pairA at h
    cases hb : (decide (1 ≤ gt T i) && decide (gt T i < gt T w)) with
    | true =>
      rw [hb, cond_true] at h
      cases hp : pairB T o w i L 0 with
      | some b' =>
        rw [hp] at h
        simp only [Option.some.injEq, Prod.mk.injEq] at h
        obtain ⟨rfl, rfl⟩ := h
        simp only [Bool.and_eq_true, decide_eq_true_eq] at hb
        obtain ⟨h1, h2, _, _, h5⟩ := pairB_ok L 0 hp
        exact ⟨hb.1, hb.2, by omega, h1, h2, by omega⟩
      | none =>
        rw [hp] at h
        obtain ⟨h1, h2, h3, h4⟩ := pairA_ok d (i + 1) h
        exact ⟨h1, h2, by omega, h4⟩
    | false =>
      rw [hb, cond_false] at h
      obtain ⟨h1, h2, h3, h4⟩ := pairA_ok d (i + 1) h
      exact ⟨h1, h2, by omega, h4⟩
theorem rd_gt (T : List Int) (i : Nat) : rd 0 T (i : Int) = gt T i := by unfold rd gt; rw [Int.toNat_natCast]
theorem gs2 (s t : List UInt8) (h : s.length + t.length ≤ 1000000) (X : Option β) : gd (decide ((B s).size + (B t).size ≤ 9223372036854775807)) X = X := gd_true (decide_eq_true (by rw [B_size, B_size]; omega))
theorem pairB_zero {T : List Int} {o : Bool} {w a d : Nat} (h : gt T 0 = 0) : pairB T o w a (d + 1) 0 = pairB T o w a d 1 := by
  show cond (decide (1 ≤ gt T 0) && _ && _) _ _ = _
  rw [h, show decide ((1 : Int) ≤ 0) = false from rfl, Bool.false_and, Bool.false_and, cond_false]
theorem pairB_last {T : List Int} {o : Bool} {w a i : Nat} (h : gt T i = 0) : pairB T o w a 1 i = none := by
  show cond (decide (1 ≤ gt T i) && _ && _) _ _ = _
  rw [h, show decide ((1 : Int) ≤ 0) = false from rfl, Bool.false_and, Bool.false_and, cond_false]
  rfl
section
variable (N : Nat) (hN : 1048576 < N) {n : Nat} (hn : n ≤ 3) {T : List Int} (hT : SzOK n T) {w a : Nat} (hw : w < 2 ^ 2 ^ n) (ha : a < 2 ^ 2 ^ n) (g : Nat → List UInt8)
  (hg : ∀ x, (g x).length ≤ 1000) (ha1 : 1 ≤ gt T a) (ha2 : gt T a < gt T w)
include hN hn hT hw ha hg ha1 ha2
theorem spec_b_loop (o : Bool) (self : List Int → Int → Int → (ByteArray → Option β) → Option β) (hs : ∀ x, x < 2 ^ 2 ^ n → 1 ≤ gt T x → gt T x < gt T w → ∀ K, self T (n : Int) (x : Int) K = K (B (g x))) (k0 : ByteArray → Option β) (k1 : List Int → Int → Int → Int → Int → Option β) :
    ∀ (d F i : Nat), i + d = 2 ^ 2 ^ n - 1 → d < F → zj19 N self F T (n : Int) (w : Int) (cond o 0 1) (a : Int) (i : Int) k0 k1 =
      match pairB T o w a (d + 1) i with
      | some b => k0 (B (cond o 38 124 :: g a ++ g b))
      | none => k1 T (n : Int) (w : Int) (cond o 0 1) (a : Int)
  | d, 0, _, _, h => absurd h (Nat.not_lt_zero _)
  | 0, F + 1, i, hi, _ => by
    obtain rfl : i = 2 ^ 2 ^ n - 1 := by omega
    rw [pairB_last hT.full]
    show zj18 N self T (n : Int) (w : Int) (cond o 0 1) (a : Int) _ _ k0 k1 = _
    unfold zj18
    rw [spec_l2Full_eq N n (by omega), decide_eq_false (by omega)]
    rfl
  | d + 1, F + 1, i, hi, hF => by
    have hL := hT.len
    have ih := spec_b_loop o self hs k0 k1 d F (i + 1) (by omega) (by omega)
    have hla := hT.le a
    have hlb := hT.le i
    have hlw := hT.le w
    have hL2 : 2 ^ 2 ^ n ≤ 256 := by
      obtain rfl | rfl | rfl | rfl : n = 0 ∨ n = 1 ∨ n = 2 ∨ n = 3 := by omega
      all_goals decide
    show zj18 N self T (n : Int) (w : Int) (cond o 0 1) (a : Int) (i : Int) _ k0 k1 = _
    unfold zj18
    rw [spec_l2Full_eq N n (by omega), decide_eq_true (by omega : (i : Int) < ((2 ^ 2 ^ n - 1 : Nat) : Int)), cond_true, gd_true (decide_eq_true (by omega)), gd_true (decide_eq_true (by omega)), gd_true (decide_eq_true (by omega)), gd_true (decide_eq_true (by omega)), gd_true (decide_eq_true (by omega)), gd_true (decide_eq_true (by omega))]
    rw [rd_gt, rd_gt, rd_gt, w64_id (by omega) (by omega), w64_succ i (by omega), bAnd a i (by omega) (by omega), bOr a i (by omega) (by omega)]
    dsimp only
    have hp : pairB T o w a (d + 1 + 1) i = cond (decide (1 ≤ gt T i) && decide (gt T a + gt T i = gt T w) && (cond o (a &&& i) (a ||| i) == w)) (some i) (pairB T o w a (d + 1) (i + 1)) := rfl
    rw [hp]
    by_cases e1 : gt T a + gt T i = gt T w
    · have hi1 : 1 ≤ gt T i := by omega
      have hilt : gt T i < gt T w := by omega
      have b1 : ((gt T a + gt T i) != gt T w) = false := by simp [e1]
      rw [b1, cond_false, decide_eq_true hi1, decide_eq_true e1, Bool.true_and, Bool.true_and]
      have ga := hg a
      have gi := hg i
      cases o with
      | true =>
        rw [cond_true, cond_true, cond_true, show ((0 : Int) == 0) = true from rfl, cond_true]
        by_cases e2 : a &&& i = w
        · rw [show (((a &&& i : Nat) : Int) == (w : Int)) = true by simp [e2], show (a &&& i == w) = true by simp [e2], cond_true, cond_true, hs a ha ha1 ha2, show strOf [38] = B [38] from rfl, gs2 _ _ (by simp only [List.length_cons, List.length_nil]; omega), hs i (by omega) hi1 hilt, B_app, gs2 _ _ (by simp only [List.length_append, List.length_cons, List.length_nil]; omega), B_app]
          rfl
        · rw [show (((a &&& i : Nat) : Int) == (w : Int)) = false by rw [beq_eq_false_iff_ne]; omega, show (a &&& i == w) = false by simp [e2], cond_false, cond_false, show ((0 : Int) == 1) = false from rfl, cond_false]
          exact ih
      | false =>
        rw [cond_false, cond_false, cond_false, show ((1 : Int) == 0) = false from rfl, cond_false, show ((1 : Int) == 1) = true from rfl, cond_true]
        by_cases e2 : a ||| i = w
        · rw [show (((a ||| i : Nat) : Int) == (w : Int)) = true by simp [e2], show (a ||| i == w) = true by simp [e2], cond_true, cond_true, hs a ha ha1 ha2, show strOf [124] = B [124] from rfl, gs2 _ _ (by simp only [List.length_cons, List.length_nil]; omega), hs i (by omega) hi1 hilt, B_app, gs2 _ _ (by simp only [List.length_append, List.length_cons, List.length_nil]; omega), B_app]
          rfl
        · rw [show (((a ||| i : Nat) : Int) == (w : Int)) = false by rw [beq_eq_false_iff_ne]; omega, show (a ||| i == w) = false by simp [e2], cond_false, cond_false]
          exact ih
    · rw [show ((gt T a + gt T i) != gt T w) = true by simp [e1], cond_true, decide_eq_false e1, Bool.and_false, Bool.false_and, cond_false]
      exact ih
end
theorem pairA_last {T : List Int} {o : Bool} {w L i : Nat} (h : gt T i = 0) : pairA T o w L 1 i = none := by
  show cond (decide (1 ≤ gt T i) && _) _ _ = _
  rw [h, show decide ((1 : Int) ≤ 0) = false from rfl, Bool.false_and, cond_false]
  rfl
theorem pairA_zero {T : List Int} {o : Bool} {w L d : Nat} (h : gt T 0 = 0) : pairA T o w L (d + 1) 0 = pairA T o w L d 1 := by
  show cond (decide (1 ≤ gt T 0) && _) _ _ = _
  rw [h, show decide ((1 : Int) ≤ 0) = false from rfl, Bool.false_and, cond_false]
section
variable (N : Nat) (hN : 1048576 < N) {n : Nat} (hn : n ≤ 3) {T : List Int} (hT : SzOK n T) {w : Nat} (hw : w < 2 ^ 2 ^ n) (g : Nat → List UInt8) (hg : ∀ x, (g x).length ≤ 1000)
include hN hn hT hw hg
theorem spec_a_loop (o : Bool) (self : List Int → Int → Int → (ByteArray → Option β) → Option β) (hs : ∀ x, x < 2 ^ 2 ^ n → 1 ≤ gt T x → gt T x < gt T w → ∀ K, self T (n : Int) (x : Int) K = K (B (g x))) (k0 : ByteArray → Option β) (k1 : List Int → Int → Int → Int → Option β) :
    ∀ (d F i : Nat), i + d = 2 ^ 2 ^ n - 1 → 1 ≤ i → d < F → zj21 N self F T (n : Int) (w : Int) (cond o 0 1) (i : Int) k0 k1 =
      match pairA T o w (2 ^ 2 ^ n) (d + 1) i with
      | some (a, b) => k0 (B (cond o 38 124 :: g a ++ g b))
      | none => k1 T (n : Int) (w : Int) (cond o 0 1)
  | d, 0, _, _, _, h => absurd h (Nat.not_lt_zero _)
  | 0, F + 1, i, hi, _, _ => by
    obtain rfl : i = 2 ^ 2 ^ n - 1 := by omega
    rw [pairA_last hT.full]
    show zj20 N self T (n : Int) (w : Int) (cond o 0 1) _ _ k0 k1 = _
    unfold zj20
    rw [spec_l2Full_eq N n (by omega), decide_eq_false (by omega)]
    rfl
  | d + 1, F + 1, i, hi, h1, hF => by
    have hL := hT.len
    have hlw := hT.le w
    have hL2 : 2 ^ 2 ^ n ≤ 256 := by
      obtain rfl | rfl | rfl | rfl : n = 0 ∨ n = 1 ∨ n = 2 ∨ n = 3 := by omega
      all_goals decide
    have hmid := hT.mid i (by omega) (by omega)
    have ih := spec_a_loop o self hs k0 k1 d F (i + 1) (by omega) (by omega) (by omega)
    show zj20 N self T (n : Int) (w : Int) (cond o 0 1) (i : Int) _ k0 k1 = _
    unfold zj20
    rw [spec_l2Full_eq N n (by omega), decide_eq_true (by omega : (i : Int) < ((2 ^ 2 ^ n - 1 : Nat) : Int)), cond_true, gd_true (decide_eq_true (by omega)), gd_true (decide_eq_true (by omega)), gd_true (decide_eq_true (by omega)), gd_true (decide_eq_true (by omega)), rd_gt, rd_gt, w64_succ i (by omega)]
    have hp : pairA T o w (2 ^ 2 ^ n) (d + 1 + 1) i = cond (decide (1 ≤ gt T i) && decide (gt T i < gt T w)) (match pairB T o w i (2 ^ 2 ^ n) 0 with | some b => some (i, b) | none => pairA T o w (2 ^ 2 ^ n) (d + 1) (i + 1)) (pairA T o w (2 ^ 2 ^ n) (d + 1) (i + 1)) := rfl
    rw [hp, decide_eq_true hmid, Bool.true_and]
    by_cases e1 : gt T i < gt T w
    · have hz : pairB T o w i (2 ^ 2 ^ n) 0 = pairB T o w i (2 ^ 2 ^ n - 2 + 1) 1 := by
        rw [show 2 ^ 2 ^ n = 2 ^ 2 ^ n - 2 + 1 + 1 by omega]
        exact pairB_zero hT.zero
      rw [decide_eq_false (by omega : ¬ gt T i ≥ gt T w), cond_false, decide_eq_true e1, cond_true, hz]
      have hb := spec_b_loop N hN hn hT hw (by omega : i < 2 ^ 2 ^ n) g hg hmid e1 o self hs k0 (fun x1 x2 x3 x4 x5 => zj21 N self F x1 x2 x3 x4 (w64 (x5 + 1)) k0 k1) (2 ^ 2 ^ n - 2) N 1 (by omega) (by omega)
      refine Eq.trans hb ?_
      cases pairB T o w i (2 ^ 2 ^ n - 2 + 1) 1 with
      | some b => rfl
      | none =>
        show zj21 N self F T (n : Int) (w : Int) (cond o 0 1) (w64 ((i : Int) + 1)) k0 k1 = _
        rw [w64_succ i (by omega)]
        exact ih
    · rw [decide_eq_true (by omega : gt T i ≥ gt T w), cond_true, decide_eq_false e1, cond_false]
      exact ih
theorem spec_o_loop (self : List Int → Int → Int → (ByteArray → Option β) → Option β) (hs : ∀ x, x < 2 ^ 2 ^ n → 1 ≤ gt T x → gt T x < gt T w → ∀ K, self T (n : Int) (x : Int) K = K (B (g x))) (hL4 : 2 ≤ 2 ^ 2 ^ n) (k0 : ByteArray → Option β) (k1 : Option β) :
    zj23 N self N T (n : Int) (w : Int) 0 k0 k1 =
      match pairA T true w (2 ^ 2 ^ n) (2 ^ 2 ^ n) 0 with
      | some (a, b) => k0 (B (38 :: g a ++ g b))
      | none => match pairA T false w (2 ^ 2 ^ n) (2 ^ 2 ^ n) 0 with
        | some (a, b) => k0 (B (124 :: g a ++ g b))
        | none => k1 := by
  obtain ⟨M, rfl⟩ : ∃ M, N = M + 3 := ⟨N - 3, by omega⟩
  have hL2 : 2 ^ 2 ^ n ≤ 256 := by
    obtain rfl | rfl | rfl | rfl : n = 0 ∨ n = 1 ∨ n = 2 ∨ n = 3 := by omega
    all_goals decide
  have hz : ∀ o, pairA T o w (2 ^ 2 ^ n) (2 ^ 2 ^ n) 0 = pairA T o w (2 ^ 2 ^ n) (2 ^ 2 ^ n - 2 + 1) 1 := fun o => by
    have h := pairA_zero (T := T) (o := o) (w := w) (L := 2 ^ 2 ^ n) (d := 2 ^ 2 ^ n - 2 + 1) hT.zero
    rw [show 2 ^ 2 ^ n - 2 + 1 + 1 = 2 ^ 2 ^ n by omega] at h
    exact h
  rw [hz true, hz false]
  have ha := fun o k0 (k1 : List Int → Int → Int → Int → Option β) => spec_a_loop (M + 3) hN hn hT hw g hg o self hs k0 k1 (2 ^ 2 ^ n - 2) (M + 3) 1 (by omega) (Nat.le_refl _) (by omega)
  show zj22 (M + 3) self T (n : Int) (w : Int) 0 (fun v0 v1 v2 v3 => zj23 (M + 3) self (M + 2) v0 v1 v2 v3 k0 k1) k0 k1 = _
  unfold zj22
  refine Eq.trans (ha true _ _) ?_
  cases pairA T true w (2 ^ 2 ^ n) (2 ^ 2 ^ n - 2 + 1) 1 with
  | some p => rfl
  | none =>
    show zj22 (M + 3) self T (n : Int) (w : Int) 1 (fun v0 v1 v2 v3 => zj23 (M + 3) self (M + 1) v0 v1 v2 v3 k0 k1) k0 k1 = _
    unfold zj22
    refine Eq.trans (ha false _ _) ?_
    cases pairA T false w (2 ^ 2 ^ n) (2 ^ 2 ^ n - 2 + 1) 1 with
    | some p => rfl
    | none => rfl
end
theorem vw_tab : ∀ n, n ≤ 3 → ∀ i, i < n → tabw (fun x => x.testBit i) (2 ^ n) = vw n i := by decide +kernel
theorem let_str (i : Nat) (hi : i < 3) : (strOf [97, 98, 99, 100, 101]).extract (Int.toNat (i : Int)) (Int.toNat ((i + 1 : Nat) : Int)) = B [UInt8.ofNat (97 + i)] := by
  obtain rfl | rfl | rfl : i = 0 ∨ i = 1 ∨ i = 2 := by omega
  all_goals rfl
theorem spec_let (N : Nat) (hN : 1048576 < N) {n : Nat} (hn : n ≤ 3) {T : List Int} (hT : SzOK n T) {w : Nat} (hw : w < 2 ^ 2 ^ n) (k0 : ByteArray → Option β) (k1 : List Int → Int → Int → Option β) :
    ∀ (d F i : Nat), i + d = n → d < F → zj17 N F T (n : Int) (w : Int) (i : Int) k0 k1 = match cond (decide (gt T w = 1)) (letR n w d i) none with
      | some s => k0 (B s)
      | none => k1 T (n : Int) (w : Int)
  | d, 0, _, _, h => absurd h (Nat.not_lt_zero _)
  | 0, F + 1, i, hi, _ => by
    obtain rfl : i = n := by omega
    show zj16 N T (i : Int) (w : Int) (i : Int) _ k0 k1 = _
    unfold zj16
    rw [decide_eq_false (by omega)]
    cases decide (gt T w = 1) <;> rfl
  | d + 1, F + 1, i, hi, hF => by
    have hL := hT.len
    have ih := spec_let N hN hn hT hw k0 k1 d F (i + 1) (by omega) (by omega)
    have hv := vw_lt n hn i (by omega)
    have hv2 := vz_lt n hn i (by omega)
    have hfu : full n = 2 ^ 2 ^ n - 1 := rfl
    have hL2 : 2 ^ 2 ^ n ≤ 256 := by
      obtain rfl | rfl | rfl | rfl : n = 0 ∨ n = 1 ∨ n = 2 ∨ n = 3 := by omega
      all_goals decide
    show zj16 N T (n : Int) (w : Int) (i : Int) _ k0 k1 = _
    unfold zj16
    rw [decide_eq_true (by omega : (i : Int) < (n : Int)), cond_true, gd_true (decide_eq_true (by omega)), gd_true (decide_eq_true (by omega)), rd_gt]
    by_cases e1 : gt T w = 1
    · rw [show (gt T w == 1) = true by simp [e1], cond_true, decide_eq_true e1, cond_true, l2Variable_eq N n i (by omega) (by omega), vw_tab n hn i (by omega), spec_l2Full_eq N n (by omega), l2Variable_eq N n i (by omega) (by omega), vw_tab n hn i (by omega)]
      dsimp only
      have hsub : w64 (((2 ^ 2 ^ n - 1 : Nat) : Int) - ((vw n i : Nat) : Int)) = ((full n - vw n i : Nat) : Int) := by rw [w64_id (by omega) (by omega)]; omega
      rw [hsub, w64_succ i (by omega)]
      have hl : letR n w (d + 1) i = cond (w == vw n i) (some [UInt8.ofNat (97 + i)]) (cond (w == full n - vw n i) (some [33, UInt8.ofNat (97 + i)]) (letR n w d (i + 1))) := rfl
      rw [hl]
      have hsz : (strOf [97, 98, 99, 100, 101]).size = 5 := rfl
      by_cases e2 : w = vw n i
      · rw [show ((w : Int) == ((vw n i : Nat) : Int)) = true by simp [e2], show (w == vw n i) = true by simp [e2], cond_true, cond_true, gd_true (decide_eq_true (by omega)), gd_true (decide_eq_true (by rw [hsz]; omega)), gd_true (decide_eq_true (by omega)), gd_true (decide_eq_true (by omega)), let_str i (by omega)]
      · rw [show ((w : Int) == ((vw n i : Nat) : Int)) = false by rw [beq_eq_false_iff_ne]; omega, show (w == vw n i) = false by simp [e2], cond_false, cond_false]
        by_cases e3 : w = full n - vw n i
        · rw [show ((w : Int) == ((full n - vw n i : Nat) : Int)) = true by simp [e3], show (w == full n - vw n i) = true by simp [e3], cond_true, cond_true, gd_true (decide_eq_true (by omega)), gd_true (decide_eq_true (by rw [hsz]; omega)), gd_true (decide_eq_true (by omega)), gd_true (decide_eq_true (by omega)), let_str i (by omega), show strOf [33] = B [33] from rfl, gs2 _ _ (by simp), B_app]
          rfl
        · rw [show ((w : Int) == ((full n - vw n i : Nat) : Int)) = false by rw [beq_eq_false_iff_ne]; omega, show (w == full n - vw n i) = false by simp [e3], cond_false, cond_false]
          rw [decide_eq_true e1, cond_true] at ih
          exact ih
    · rw [show (gt T w == 1) = false by simp [e1], cond_false, decide_eq_false e1, cond_false]
theorem letR_len {n w : Nat} {s : List UInt8} : ∀ (d i : Nat), letR n w d i = some s → s.length ≤ 2
  | 0, _, h => by cases h
  | d + 1, i, h => by
    unfold letR at h
    cases h1 : w == vw n i with
    | true => rw [h1, cond_true, Option.some.injEq] at h; subst h; simp
    | false =>
      rw [h1, cond_false] at h
      cases h2 : w == full n - vw n i with
      | true => rw [h2, cond_true, Option.some.injEq] at h; subst h; simp
      | false => rw [h2, cond_false] at h; exact letR_len d (i + 1) h
theorem fm_len {n : Nat} {T : List Int} (hT : SzOK n T) : ∀ (F w : Nat), ((fmF T n F w).length : Int) ≤ if 1 ≤ gt T w then 3 * gt T w - 1 else 1
  | 0, w => by
    show ((0 : Nat) : Int) ≤ _
    split <;> omega
  | F + 1, w => by
    have ih := fm_len hT F
    have two : ∀ a b, 1 ≤ gt T a → 1 ≤ gt T b → gt T a + gt T b = gt T w → ∀ c : UInt8, ((c :: fmF T n F a ++ fmF T n F b).length : Int) ≤ if 1 ≤ gt T w then 3 * gt T w - 1 else 1 := fun a b h1 h2 h3 c => by
      have ha := ih a
      have hb := ih b
      rw [if_pos h1] at ha
      rw [if_pos h2] at hb
      rw [if_pos (by omega)]
      simp only [List.cons_append, List.length_cons, List.length_append]
      omega
    unfold fmF
    cases h0 : w == 0 with
    | true =>
      rw [cond_true]
      have : w = 0 := by simpa using h0
      subst this
      rw [hT.zero]; simp
    | false =>
      rw [cond_false]
      cases h1 : w == full n with
      | true =>
        rw [cond_true]
        have : w = full n := by simpa using h1
        subst this
        rw [show full n = 2 ^ 2 ^ n - 1 from rfl, hT.full]; simp
      | false =>
        rw [cond_false]
        cases hl : cond (decide (gt T w = 1)) (letR n w n 0) none with
        | some s =>
          dsimp only
          cases h2 : decide (gt T w = 1) with
          | false => rw [h2] at hl; cases hl
          | true =>
            rw [h2, cond_true] at hl
            have := letR_len n 0 hl
            rw [of_decide_eq_true h2]
            simp only [Int.le_refl, if_true]
            omega
        | none =>
          dsimp only
          cases hp : pairA T true w (2 ^ 2 ^ n) (2 ^ 2 ^ n) 0 with
          | some p =>
            obtain ⟨a, b⟩ := p
            obtain ⟨p1, _, _, p4, p5, _⟩ := pairA_ok _ _ hp
            exact two a b p1 p4 p5 38
          | none =>
            dsimp only
            cases hq : pairA T false w (2 ^ 2 ^ n) (2 ^ 2 ^ n) 0 with
            | some p =>
              obtain ⟨a, b⟩ := p
              obtain ⟨p1, _, _, p4, p5, _⟩ := pairA_ok _ _ hq
              exact two a b p1 p4 p5 124
            | none =>
              show ((0 : Nat) : Int) ≤ _
              split <;> omega
theorem fm_1000 {n : Nat} {T : List Int} (hT : SzOK n T) (F w : Nat) : (fmF T n F w).length ≤ 1000 := by
  have h := fm_len hT F w
  have hl := hT.le w
  split at h <;> omega
theorem spec_write {N : Nat} (hN : 1048576 < N) {n : Nat} (hn : n ≤ 3) {T : List Int} (hT : SzOK n T) : ∀ (F w : Nat), w < 2 ^ 2 ^ n → gt T w < F → ∀ K : ByteArray → Option β, zj25 N F T (n : Int) (w : Int) K = K (B (fmF T n F w))
  | 0, w, _, h, _ => by have := hT.le w; omega
  | F + 1, w, hw, hF, K => by
    have hs : ∀ x, x < 2 ^ 2 ^ n → 1 ≤ gt T x → gt T x < gt T w → ∀ K : ByteArray → Option β, zj25 N F T (n : Int) (x : Int) K = K (B (fmF T n F x)) := fun x hx _ h2 K => spec_write hN hn hT F x hx (by omega) K
    have hL2 : 2 ≤ 2 ^ 2 ^ n := by
      obtain rfl | rfl | rfl | rfl : n = 0 ∨ n = 1 ∨ n = 2 ∨ n = 3 := by omega
      all_goals decide
    show zj24 N (zj25 N F) T (n : Int) (w : Int) K = _
    unfold zj24 fmF
    cases h0 : w == 0 with
    | true =>
      have : w = 0 := by simpa using h0
      subst this
      rfl
    | false =>
      have h0' : w ≠ 0 := by simpa using h0
      rw [show ((w : Int) == 0) = false by rw [beq_eq_false_iff_ne]; omega, cond_false, cond_false, spec_l2Full_eq N n (by omega)]
      cases h1 : w == full n with
      | true =>
        have : w = full n := by simpa using h1
        subst this
        rw [show ((full n : Nat) : Int) = ((2 ^ 2 ^ n - 1 : Nat) : Int) from rfl, beq_self_eq_true]
        rfl
      | false =>
        have h1' : w ≠ 2 ^ 2 ^ n - 1 := by
          have : w ≠ full n := by simpa using h1
          exact this
        rw [show ((w : Int) == ((2 ^ 2 ^ n - 1 : Nat) : Int)) = false by rw [beq_eq_false_iff_ne]; omega, cond_false, cond_false]
        refine Eq.trans (spec_let N hN hn hT hw _ _ n N 0 (by omega) (by omega)) ?_
        cases cond (decide (gt T w = 1)) (letR n w n 0) none with
        | some s => rfl
        | none =>
          dsimp only
          refine Eq.trans (spec_o_loop N hN hn hT hw (fmF T n F) (fm_1000 hT F) _ hs hL2 _ _) ?_
          cases pairA T true w (2 ^ 2 ^ n) (2 ^ 2 ^ n) 0 with
          | some p => rfl
          | none =>
            cases pairA T false w (2 ^ 2 ^ n) (2 ^ 2 ^ n) 0 with
            | some p => rfl
            | none => rfl
end Go.Proofs.YtmhlcbibbhelkaaDoor
namespace Go.Proofs.YtmhlcbibbhelkaaDoor
open Go.Rv
set_option linter.unusedSimpArgs false
set_option linter.unusedSectionVars false
variable {β : Type}
theorem gd_tt (X : Option β) : gd true X = X := rfl
section
variable (N : Nat) (hN : 1048576 < N) {n : Nat} (hn : n ≤ 3) {T : List Int} (hT : SzOK n T) {w a : Nat} (hw : w < 2 ^ 2 ^ n) (ha : a < 2 ^ 2 ^ n) (g : Nat → List UInt8)
  (hg : ∀ x, (g x).length ≤ 1000) (ha1 : 1 ≤ gt T a) (ha2 : gt T a < gt T w)
include hN hn hT hw ha hg ha1 ha2
theorem impl_b_loop (o : Bool) (self : Int → Int → List Int → (ByteArray → Option β) → Option β) (hs : ∀ x, x < 2 ^ 2 ^ n → 1 ≤ gt T x → gt T x < gt T w → ∀ K, self (n : Int) (x : Int) T K = K (B (g x))) (x4 x5 : Int) (x6 : List Int) (x7 x8 : Int) (x14 : List Int) (k0 : ByteArray → Option β) (k1 : List Int → Int → Int → Int → List Int → Int → Int → Int → Int → List Int → Option β) :
    ∀ (d F i : Nat), i + d = 2 ^ 2 ^ n → d < F → zj41 N self F T (cond o 38 124) (a : Int) (gt T a) x4 x5 x6 x7 x8 T (T.length : Int) (i : Int) (n : Int) (w : Int) x14 k0 k1 =
      match pairB T o w a d i with
      | some b => k0 (B (cond o 38 124 :: g a ++ g b))
      | none => k1 T (cond o 38 124) x4 x5 x6 x7 x8 (n : Int) (w : Int) x14
  | d, 0, _, _, h => absurd h (Nat.not_lt_zero _)
  | 0, F + 1, i, hi, _ => by
    have hL := hT.len
    obtain rfl : i = 2 ^ 2 ^ n := by omega
    show zj40 N self T (cond o 38 124) (a : Int) (gt T a) x4 x5 x6 x7 x8 T (T.length : Int) _ (n : Int) (w : Int) x14 _ k0 k1 = _
    unfold zj40
    rw [decide_eq_false (by omega)]
    rfl
  | d + 1, F + 1, i, hi, hF => by
    have hL := hT.len
    have ih := impl_b_loop o self hs x4 x5 x6 x7 x8 x14 k0 k1 d F (i + 1) (by omega) (by omega)
    have hla := hT.le a
    have hlb := hT.le i
    have hlw := hT.le w
    have hL2 : 2 ^ 2 ^ n ≤ 256 := by
      obtain rfl | rfl | rfl | rfl : n = 0 ∨ n = 1 ∨ n = 2 ∨ n = 3 := by omega
      all_goals decide
    show zj40 N self T (cond o 38 124) (a : Int) (gt T a) x4 x5 x6 x7 x8 T (T.length : Int) (i : Int) (n : Int) (w : Int) x14 _ k0 k1 = _
    unfold zj40
    rw [decide_eq_true (by omega : (i : Int) < (T.length : Int)), cond_true, gd_true (decide_eq_true (by omega)), rd_gt, rd_gt, w64_succ i (by omega), w64_id (by omega) (by omega), bAnd a i (by omega) (by omega), bOr a i (by omega) (by omega)]
    dsimp only
    have hp : pairB T o w a (d + 1) i = cond (decide (1 ≤ gt T i) && decide (gt T a + gt T i = gt T w) && (cond o (a &&& i) (a ||| i) == w)) (some i) (pairB T o w a d (i + 1)) := rfl
    rw [hp]
    have g0 : ∀ X : Option β, gd (decide ((0 : Int) ≤ (w : Int))) X = X := fun X => gd_true (decide_eq_true (by omega))
    have g1 : ∀ X : Option β, gd (decide ((w : Int) < (T.length : Int))) X = X := fun X => gd_true (decide_eq_true (by omega))
    simp only [g0, g1, gd_tt]
    have ga := hg a
    have gi := hg i
    cases o with
    | true =>
      simp only [cond_true] at ih ⊢
      rw [show ((38 : Int) == 124) = false from rfl, cond_false]
      by_cases e0 : 1 ≤ gt T i
      · rw [decide_eq_true e0, Bool.true_and, cond_true]
        by_cases e1 : gt T a + gt T i = gt T w
        · have hilt : gt T i < gt T w := by omega
          rw [show (gt T a + gt T i == gt T w) = true by simp [e1], cond_true, decide_eq_true e1, Bool.true_and]
          by_cases e2 : a &&& i = w
          · rw [show (((a &&& i : Nat) : Int) == (w : Int)) = true by simp [e2], show (a &&& i == w) = true by simp [e2], cond_true, cond_true, hs a ha ha1 ha2, hs i (by omega) e0 hilt]
            show gd (decide ((B [38]).size + (B (g a)).size ≤ 9223372036854775807)) (gd (decide ((B [38] ++ B (g a)).size + (B (g i)).size ≤ 9223372036854775807)) (k0 (B [38] ++ B (g a) ++ B (g i)))) = _
            rw [gs2 _ _ (by simp only [List.length_cons, List.length_nil]; omega), B_app, gs2 _ _ (by simp only [List.length_append, List.length_cons, List.length_nil]; omega), B_app]
            rfl
          · rw [show (((a &&& i : Nat) : Int) == (w : Int)) = false by rw [beq_eq_false_iff_ne]; omega, show (a &&& i == w) = false by simp [e2], cond_false, cond_false]
            exact ih
        · rw [show (gt T a + gt T i == gt T w) = false by rw [beq_eq_false_iff_ne]; exact e1, cond_false, decide_eq_false e1, Bool.false_and, cond_false]
          exact ih
      · rw [decide_eq_false e0, Bool.false_and, Bool.false_and, cond_false, cond_false]
        exact ih
    | false =>
      simp only [cond_false] at ih ⊢
      rw [show ((124 : Int) == 124) = true from rfl, cond_true]
      by_cases e0 : 1 ≤ gt T i
      · rw [decide_eq_true e0, Bool.true_and, cond_true]
        by_cases e1 : gt T a + gt T i = gt T w
        · have hilt : gt T i < gt T w := by omega
          rw [show (gt T a + gt T i == gt T w) = true by simp [e1], cond_true, decide_eq_true e1, Bool.true_and]
          by_cases e2 : a ||| i = w
          · rw [show (((a ||| i : Nat) : Int) == (w : Int)) = true by simp [e2], show (a ||| i == w) = true by simp [e2], cond_true, cond_true, hs a ha ha1 ha2, hs i (by omega) e0 hilt]
            show gd (decide ((B [124]).size + (B (g a)).size ≤ 9223372036854775807)) (gd (decide ((B [124] ++ B (g a)).size + (B (g i)).size ≤ 9223372036854775807)) (k0 (B [124] ++ B (g a) ++ B (g i)))) = _
            rw [gs2 _ _ (by simp only [List.length_cons, List.length_nil]; omega), B_app, gs2 _ _ (by simp only [List.length_append, List.length_cons, List.length_nil]; omega), B_app]
            rfl
          · rw [show (((a ||| i : Nat) : Int) == (w : Int)) = false by rw [beq_eq_false_iff_ne]; omega, show (a ||| i == w) = false by simp [e2], cond_false, cond_false]
            exact ih
        · rw [show (gt T a + gt T i == gt T w) = false by rw [beq_eq_false_iff_ne]; exact e1, cond_false, decide_eq_false e1, Bool.false_and, cond_false]
          exact ih
      · rw [decide_eq_false e0, Bool.false_and, Bool.false_and, cond_false, cond_false]
        exact ih
end
end Go.Proofs.YtmhlcbibbhelkaaDoor
namespace Go.Proofs.YtmhlcbibbhelkaaDoor
open Go.Rv
set_option linter.unusedVariables false
set_option linter.unusedSimpArgs false
variable {β : Type}
def okT (n m v : Nat) : Bool := decide (m < 2 ^ n) && (v &&& m == v)
def ft (m v : Nat) : Nat → List UInt8
  | 0 => []
  | i + 1 => ft m v i ++ cond (m.testBit i) (cond (v.testBit i) [UInt8.ofNat (97 + i)] [33, UInt8.ofNat (97 + i)]) []
def tl (l : List (Nat × Nat)) : List (Int × Int) := l.map fun p => ((p.1 : Int), (p.2 : Int))
def anyTo (p : Nat → Bool) : Nat → Bool
  | 0 => false
  | m + 1 => anyTo p m || p m
def imp (n w m v : Nat) : Bool := !anyTo (fun x => (x &&& m == v) && !w.testBit x) (2 ^ n) && anyTo (fun x => (x &&& m == v) && w.testBit x) (2 ^ n)
def off (m i : Nat) : Nat := m ^^^ (m &&& 2 ^ i)
def prm (n w m v : Nat) : Bool := imp n w m v && !anyTo (fun i => m.testBit i && imp n w (off m i) (off v i)) n
theorem anyTo_iff {p : Nat → Bool} : ∀ {m : Nat}, anyTo p m = true ↔ ∃ i, i < m ∧ p i = true
  | 0 => ⟨(fun h => by cases h), (fun ⟨j, h, _⟩ => by omega)⟩
  | m + 1 => by
    rw [anyTo, Bool.or_eq_true, anyTo_iff (m := m)]
    constructor
    · rintro (⟨i, h1, h2⟩ | h)
      · exact ⟨i, by omega, h2⟩
      · exact ⟨m, by omega, h⟩
    · rintro ⟨i, h1, h2⟩
      rcases Nat.lt_or_ge i m with h | h
      · exact Or.inl ⟨i, h, h2⟩
      · have : i = m := by omega
        subst this
        exact Or.inr h2
def prr (n w m : Nat) : Nat → List (Nat × Nat)
  | 0 => []
  | v + 1 => prr n w m v ++ cond ((v &&& m == v) && prm n w m v) [(m, v)] []
def prl (n w : Nat) : Nat → List (Nat × Nat)
  | 0 => []
  | m + 1 => prl n w m ++ prr n w m (m + 1)
theorem prr_mem (n w m : Nat) (t : Nat × Nat) : ∀ k, t ∈ prr n w m k ↔ ∃ v, v < k ∧ (v &&& m == v) = true ∧ prm n w m v = true ∧ t = (m, v)
  | 0 => ⟨(fun h => by cases h), (fun ⟨j, h, _⟩ => by omega)⟩
  | k + 1 => by
    rw [prr, List.mem_append, prr_mem n w m t k]
    constructor
    · rintro (⟨v, h1, h2⟩ | h)
      · exact ⟨v, by omega, h2⟩
      · cases hc : ((k &&& m == k) && prm n w m k) with
        | false => rw [hc] at h; cases h
        | true =>
          rw [hc] at h
          rw [Bool.and_eq_true] at hc
          exact ⟨k, by omega, hc.1, hc.2, List.mem_singleton.1 h⟩
    · rintro ⟨v, h1, h2, h3, h4⟩
      rcases Nat.lt_or_ge v k with h | h
      · exact Or.inl ⟨v, h, h2, h3, h4⟩
      · have : v = k := by omega
        subst this
        refine Or.inr ?_
        rw [h2, h3]
        exact List.mem_singleton.2 h4
theorem prl_mem (n w : Nat) (t : Nat × Nat) : ∀ k, t ∈ prl n w k ↔ ∃ m, m < k ∧ ∃ v, v < m + 1 ∧ (v &&& m == v) = true ∧ prm n w m v = true ∧ t = (m, v)
  | 0 => ⟨(fun h => by cases h), (fun ⟨j, h, _⟩ => by omega)⟩
  | k + 1 => by
    rw [prl, List.mem_append, prl_mem n w t k, prr_mem]
    constructor
    · rintro (⟨v, h1, h2⟩ | h)
      · exact ⟨v, by omega, h2⟩
      · exact ⟨k, by omega, h⟩
    · rintro ⟨v, h1, h2⟩
      rcases Nat.lt_or_ge v k with h | h
      · exact Or.inl ⟨v, h, h2⟩
      · have : v = k := by omega
        subst this
        exact Or.inr h2
theorem off_lt : ∀ m : Nat, m < 32 → ∀ i : Nat, i < 5 → m.testBit i = true → off m i < m := by decide +kernel
theorem off_ok : ∀ i : Nat, i < 5 → ∀ m : Nat, m < 32 → ∀ v : Nat, v < 32 → (!(v &&& m == v) || (off v i &&& off m i == off v i)) = true := by decide +kernel
theorem off_and : ∀ i : Nat, i < 5 → ∀ m : Nat, m < 32 → ∀ x : Nat, x < 32 → x &&& off m i = off (x &&& m) i := by decide +kernel
theorem extend (n w : Nat) (hn : n ≤ 4) : ∀ (k m v : Nat), m < k → m < 2 ^ n → (v &&& m == v) = true → imp n w m v = true → ∃ m' v', m' < 2 ^ n ∧ (v' &&& m' == v') = true ∧ prm n w m' v' = true ∧ ∀ x, x < 32 → x &&& m = v → x &&& m' = v' := by
  have hs : 2 ^ n ≤ 16 := (Nat.pow_le_pow_right (by decide) hn : 2 ^ n ≤ 2 ^ 4)
  intro k
  induction k with
  | zero => intro m v h; omega
  | succ k ih =>
    intro m v hk hm hv hi
    cases ha : anyTo (fun i => m.testBit i && imp n w (off m i) (off v i)) n with
    | false => exact ⟨m, v, hm, hv, by unfold prm; rw [hi, ha]; rfl, fun x _ h => h⟩
    | true =>
      obtain ⟨i, h1, h2⟩ := anyTo_iff.1 ha
      rw [Bool.and_eq_true] at h2
      have h3 := off_lt m (by omega) i (by omega) h2.1
      have hvm : v ≤ m := by rw [← eq_of_beq hv]; exact Nat.and_le_right
      have h4 := off_ok i (by omega) m (by omega) v (by omega)
      rw [hv, Bool.not_true, Bool.false_or] at h4
      obtain ⟨m', v', g1, g2, g3, g4⟩ := ih (off m i) (off v i) (by omega) (by omega) h4 h2.2
      exact ⟨m', v', g1, g2, g3, fun x hx h => g4 x hx (by rw [off_and i (by omega) m (by omega) x hx, h])⟩
def sc (w m v : Nat) (b : Bool) : Nat → Bool
  | 0 => false
  | x + 1 => sc w m v b x || (x &&& m == v && w.testBit x == b)
def bothV (w n m v : Nat) : Bool := sc w m v false (2 ^ n) && sc w m v true (2 ^ n)
def free (m i : Nat) : Bool := !m.testBit i
def mnO (B : Nat) (free : Nat → Bool) (val : Nat → Nat) : Nat → Nat
  | 0 => B
  | i + 1 => if free i then min (mnO B free val i) (val i) else mnO B free val i
def ld (w n : Nat) : Nat → Nat → Nat → Nat
  | 0, _, _ => 0
  | f + 1, m, v => if bothV w n m v then mnO 10 (free m) (fun i => 1 + max (ld w n f (m ||| 2 ^ i) v) (ld w n f (m ||| 2 ^ i) (v ||| 2 ^ i))) n else 0
def fc (n m : Nat) : Nat := cnt (free m) n
def dep_ (w n m v : Nat) : Nat := ld w n (fc n m + 1) m v
def pick (w n m v i : Nat) : Bool := free m i && (1 + max (dep_ w n (m ||| 2 ^ i) v) (dep_ w n (m ||| 2 ^ i) (v ||| 2 ^ i)) == dep_ w n m v)
def Mem_x (w n : Nat) (mp : Mp) : Prop := ∀ m v : Nat, hasM ⟨true, false⟩ mp (m : Int) (v : Int) = true → getM ⟨true, false⟩ mp (m : Int) (v : Int) = (dep_ w n m v : Int)
theorem eqK_two (p : Int × Int) (a b : Int) : eqK ⟨true, false⟩ p a b = (p.1 == a && p.2 == b) := by simp [eqK]
theorem get_put (mp : Mp) (a b x c d : Int) : getM ⟨true, false⟩ (putM ⟨true, false⟩ mp a b x) c d = if (a == c && b == d) then x else getM ⟨true, false⟩ mp c d := by
  induction mp with
  | nil =>
    simp only [putM, getM, eqK_two]
    cases (a == c && b == d) <;> rfl
  | cons p l ih =>
    simp only [putM]
    cases he : eqK ⟨true, false⟩ p.1 a b with
    | true =>
      rw [cond_true]
      simp only [getM]
      rw [eqK_two] at he ⊢
      simp only [Bool.and_eq_true, beq_iff_eq] at he
      rw [eqK_two, he.1, he.2]
      cases (a == c && b == d) <;> simp
    | false =>
      rw [cond_false]
      simp only [getM, ih]
      cases hp : eqK ⟨true, false⟩ p.1 c d with
      | false => rfl
      | true =>
        rw [cond_true]
        cases hc : (a == c && b == d) with
        | false => rfl
        | true =>
          exfalso
          rw [eqK_two] at hp he
          simp only [Bool.and_eq_true, beq_iff_eq] at hp hc
          rw [hp.1, hp.2, hc.1, hc.2] at he
          simp at he
theorem has_put (mp : Mp) (a b x c d : Int) : hasM ⟨true, false⟩ (putM ⟨true, false⟩ mp a b x) c d = ((a == c && b == d) || hasM ⟨true, false⟩ mp c d) := by
  induction mp with
  | nil => simp [putM, hasM, eqK_two]
  | cons p l ih =>
    simp only [putM]
    cases he : eqK ⟨true, false⟩ p.1 a b with
    | true =>
      rw [cond_true]
      simp only [hasM]
      rw [eqK_two] at he ⊢
      simp only [Bool.and_eq_true, beq_iff_eq] at he
      rw [eqK_two, he.1, he.2]
      cases (a == c && b == d) <;> simp
    | false =>
      rw [cond_false]
      simp only [hasM, ih]
      rw [Bool.or_left_comm]
theorem Mem_x.put {w n : Nat} {mp : Mp} (h : Mem_x w n mp) (m v : Nat) {x : Int} (hx : x = (dep_ w n m v : Int)) : Mem_x w n (putM ⟨true, false⟩ mp (m : Int) (v : Int) x) := by
  intro m' v' hh
  rw [get_put]
  rw [has_put] at hh
  cases he : (((m : Int) == (m' : Int)) && ((v : Int) == (v' : Int))) with
  | true =>
    rw [if_pos rfl, hx]
    simp only [Bool.and_eq_true, beq_iff_eq] at he
    rw [show m = m' by omega, show v = v' by omega]
  | false =>
    rw [he, Bool.false_or] at hh
    rw [if_neg (by decide)]
    exact h m' v' hh
theorem itoa_bit (b : Bool) : Lib.itoa (if b then 1 else 0 : Int) = [if b then 49 else 48] := by
  cases b
  · show Lib.itoa 0 = [48]
    unfold Lib.itoa
    rw [if_neg (by decide), Lib.decDigits, dif_pos (by decide)]
    rfl
  · show Lib.itoa 1 = [49]
    unfold Lib.itoa
    rw [if_neg (by decide), Lib.decDigits, dif_pos (by decide)]
    rfl
end Go.Proofs.YtmhlcbibbhelkaaDoor
namespace Go.Proofs.YtmhlcbibbhelkaaDoor
open Go.Rv
set_option linter.unusedSimpArgs false
set_option linter.unusedVariables false
variable {β : Type}
theorem minus_bit : ∀ x a b : Nat, (a - (a &&& b)).testBit x = (a.testBit x && !b.testBit x)
  | 0, a, b => by
    have h1 : (a &&& b) % 2 = 1 ↔ a % 2 = 1 ∧ b % 2 = 1 := Nat.and_mod_two_eq_one
    have h2 : a &&& b ≤ a := Nat.and_le_left
    rw [Nat.testBit_zero, Nat.testBit_zero, Nat.testBit_zero]
    have e : (a - (a &&& b)) % 2 = 1 ↔ a % 2 = 1 ∧ ¬ b % 2 = 1 := by omega
    rw [Bool.eq_iff_iff]
    simp only [decide_eq_true_eq, Bool.and_eq_true, Bool.not_eq_true', decide_eq_false_iff_not]
    exact e
  | x + 1, a, b => by
    have h1 : (a &&& b) % 2 = 1 ↔ a % 2 = 1 ∧ b % 2 = 1 := Nat.and_mod_two_eq_one
    have h2 : (a &&& b) / 2 = a / 2 &&& b / 2 := Nat.and_div_two
    have h3 : a / 2 &&& b / 2 ≤ a / 2 := Nat.and_le_left
    rw [Nat.testBit_succ, Nat.testBit_succ, Nat.testBit_succ, ← minus_bit x (a / 2) (b / 2)]
    congr 1
    omega
theorem zero_bits {a : Nat} : a = 0 ↔ ∀ x, a.testBit x = false := ⟨fun h x => by rw [h, Nat.zero_testBit], fun h => Nat.eq_of_testBit_eq fun x => by rw [h x, Nat.zero_testBit]⟩
section
variable (wd : Nat → Nat) (T : Nat)
def cvr : List Nat → Nat → Nat → Option (List Nat)
  | [], _, left => cond (left == 0) (some []) none
  | t :: l, k, left => cond (left == 0) (some []) (match k with
    | 0 => none
    | k + 1 => cond (wd t &&& left == 0) (cvr l (k + 1) left) (match cvr l k (left - (left &&& wd t)) with
      | some r => some (t :: r)
      | none => cvr l (k + 1) left))
def Cov (s : List Nat) (left : Nat) : Prop := ∀ x, left.testBit x = true → ∃ t ∈ s, (wd t).testBit x = true
theorem cvr_zero (l : List Nat) (k : Nat) : cvr wd l k 0 = some [] := by cases l <;> rfl
theorem cvr_step (t : Nat) (l : List Nat) (k left : Nat) (h : left ≠ 0) : cvr wd (t :: l) (k + 1) left = cond (wd t &&& left == 0) (cvr wd l (k + 1) left) (match cvr wd l k (left - (left &&& wd t)) with
      | some r => some (t :: r)
      | none => cvr wd l (k + 1) left) := by
  have : (left == 0) = false := by simpa using h
  rw [cvr, this, cond_false]
theorem cvr_full : ∀ (l : List Nat) (k left : Nat) (s : List Nat), (∀ t ∈ s, t ∈ l) → s.length ≤ k → Cov wd s left → cvr wd l k left ≠ none := by
  intro l
  induction l with
  | nil =>
    intro k left s hs hk hc h
    by_cases h0 : left = 0
    · subst h0; rw [cvr_zero] at h; cases h
    · apply h0
      rw [zero_bits]
      intro x
      cases hx : left.testBit x with
      | false => rfl
      | true =>
        obtain ⟨t, ht, _⟩ := hc x hx
        cases hs t ht
  | cons t l ih =>
    intro k left s hs hk hc h
    by_cases h0 : left = 0
    · subst h0; rw [cvr_zero] at h; cases h
    · have hne : s ≠ [] := by
        rintro rfl
        apply h0
        rw [zero_bits]
        intro x
        cases hx : left.testBit x with
        | false => rfl
        | true =>
          obtain ⟨t, ht, _⟩ := hc x hx
          cases ht
      have hpos : 0 < s.length := List.length_pos_iff.2 hne
      obtain ⟨k, rfl⟩ : ∃ k', k = k' + 1 := ⟨k - 1, by omega⟩
      rw [cvr_step wd t l k left h0] at h
      have memf : ∀ u ∈ s.filter (· != t), u ∈ l := fun u hu => by
        rw [List.mem_filter] at hu
        rcases List.mem_cons.1 (hs u hu.1) with rfl | h
        · simp at hu
        · exact h
      have skip : (∀ x, left.testBit x = true → (wd t).testBit x = false) ∨ t ∉ s → cvr wd l (k + 1) left = none → False := fun hh h => by
        rcases hh with hh | hh
        · refine ih (k + 1) left (s.filter (· != t)) memf (Nat.le_trans (List.length_filter_le _ _) hk) (fun x hx => ?_) h
          obtain ⟨u, hu, hux⟩ := hc x hx
          refine ⟨u, List.mem_filter.2 ⟨hu, ?_⟩, hux⟩
          have : u ≠ t := by rintro rfl; rw [hh x hx] at hux; cases hux
          simpa using this
        · refine ih (k + 1) left s (fun u hu => ?_) hk hc h
          rcases List.mem_cons.1 (hs u hu) with rfl | h
          · exact absurd hu hh
          · exact h
      cases hb : (wd t &&& left == 0) with
      | true =>
        rw [hb, cond_true] at h
        refine skip (Or.inl fun x hx => ?_) h
        have h1 := (zero_bits.1 (eq_of_beq hb)) x
        rw [Nat.testBit_and, hx, Bool.and_true] at h1
        exact h1
      | false =>
        rw [hb, cond_false] at h
        cases hr : cvr wd l k (left - (left &&& wd t)) with
        | some r => rw [hr] at h; cases h
        | none =>
          rw [hr] at h
          by_cases hm : t ∈ s
          · refine ih k _ (s.filter (· != t)) memf ?_ (fun x hx => ?_) hr
            · have : (s.filter (· != t)).length < s.length := by
                rw [List.length_filter_lt_length_iff_exists]
                exact ⟨t, hm, by simp⟩
              omega
            · rw [minus_bit, Bool.and_eq_true, Bool.not_eq_true'] at hx
              obtain ⟨u, hu, hux⟩ := hc x hx.1
              refine ⟨u, List.mem_filter.2 ⟨hu, ?_⟩, hux⟩
              have : u ≠ t := by rintro rfl; rw [hx.2] at hux; cases hux
              simpa using this
          · exact skip (Or.inr hm) h
theorem pick_each (P : Nat → Nat → Prop) (l : List Nat) : ∀ J : Nat, ∃ s : List Nat, (∀ t ∈ s, t ∈ l) ∧ s.length ≤ J ∧ ∀ j, j < J → (∃ t ∈ l, P j t) → ∃ t ∈ s, P j t
  | 0 => ⟨[], (fun t h => by cases h), Nat.le_refl _, fun j h => absurd h (Nat.not_lt_zero _)⟩
  | J + 1 => by
    obtain ⟨s, h1, h2, h3⟩ := pick_each P l J
    by_cases hj : ∃ t ∈ l, P J t
    · obtain ⟨t, ht, hp⟩ := hj
      refine ⟨t :: s, fun u hu => ?_, by rw [List.length_cons]; omega, fun j hj he => ?_⟩
      · rcases List.mem_cons.1 hu with rfl | hu
        · exact ht
        · exact h1 u hu
      · rcases Nat.lt_or_ge j J with h | h
        · obtain ⟨u, hu, hpu⟩ := h3 j h he
          exact ⟨u, List.mem_cons_of_mem _ hu, hpu⟩
        · have : j = J := by omega
          subst this
          exact ⟨t, List.mem_cons_self, hp⟩
    · refine ⟨s, h1, by omega, fun j hj' he => ?_⟩
      rcases Nat.lt_or_ge j J with h | h
      · exact h3 j h he
      · have : j = J := by omega
        subst this
        exact absurd he hj
end
end Go.Proofs.YtmhlcbibbhelkaaDoor
namespace Go.Proofs.YtmhlcbibbhelkaaDoor
open Go.Rv
variable {β : Type}
def wdO (n : Nat) (o : List (Nat × Nat)) (i : Nat) : Nat := tabw (fun x => x &&& (o.getD i (0, 0)).1 == (o.getD i (0, 0)).2) (2 ^ n)
theorem wdO_bit (n : Nat) (o : List (Nat × Nat)) (i x : Nat) : (wdO n o i).testBit x = (decide (x < 2 ^ n) && (x &&& (o.getD i (0, 0)).1 == (o.getD i (0, 0)).2)) := tabw_bit _ _ _
theorem getD_o (o : List (Nat × Nat)) (i : Nat) (h : i < o.length) : o.getD i (0, 0) = o[i] := by simp [List.getD, h]
theorem pr1 : ∀ n : Nat, n ≤ 4 → ∀ x : Nat, x < 2 ^ n → (x &&& (2 ^ n - 1) == x) = true ∧ ∀ z : Nat, z < 2 ^ n → (z &&& (2 ^ n - 1) == x) = (z == x) := by decide +kernel
theorem pr2 : ∀ n : Nat, n ≤ 4 → ∀ x : Nat, x < 2 ^ n → x ^^^ 1 < 2 ^ n → ((x &&& (2 ^ n - 2)) &&& (2 ^ n - 2) == (x &&& (2 ^ n - 2))) = true ∧ ∀ z : Nat, z < 2 ^ n → (z &&& (2 ^ n - 2) == (x &&& (2 ^ n - 2))) = (z == x || z == x ^^^ 1) := by decide +kernel
theorem pr3 : ∀ x : Nat, x < 16 → ∀ z : Nat, z < 16 → (z / 2 == x / 2) = (z == x || z == x ^^^ 1) := by decide +kernel
theorem lt_of_bit {n w x : Nat} (hw : w < 2 ^ 2 ^ n) (h : w.testBit x = true) : x < 2 ^ n := by
  rcases Nat.lt_or_ge x (2 ^ n) with h1 | h1
  · exact h1
  · have : w < 2 ^ x := Nat.lt_of_lt_of_le hw (Nat.pow_le_pow_right (by decide) h1)
    rw [Nat.testBit_lt_two_pow this] at h
    cases h
theorem imp_of {n w m v : Nat} (hv : v < 2 ^ n) (hm : (v &&& m == v) = true) (h : ∀ z, z < 2 ^ n → (z &&& m == v) = true → w.testBit z = true) : imp n w m v = true := by
  unfold imp
  rw [Bool.and_eq_true, Bool.not_eq_true']
  constructor
  · cases ha : anyTo (fun x => (x &&& m == v) && !w.testBit x) (2 ^ n) with
    | false => rfl
    | true =>
      obtain ⟨z, hz, hb⟩ := anyTo_iff.1 ha
      rw [Bool.and_eq_true, Bool.not_eq_true'] at hb
      rw [h z hz hb.1] at hb
      cases hb.2
  · exact anyTo_iff.2 ⟨v, hv, by rw [hm, h v hv hm]; rfl⟩
theorem prime_for (n w : Nat) (hn : n ≤ 4) (hw : w < 2 ^ 2 ^ n) (x : Nat) (hx : w.testBit x = true) : ∃ i ∈ List.range (prl n w (2 ^ n)).length, ∀ z, z / 2 = x / 2 → w.testBit z = true → (wdO n (prl n w (2 ^ n)) i).testBit z = true := by
  have hs : 2 ^ n ≤ 16 := (Nat.pow_le_pow_right (by decide) hn : 2 ^ n ≤ 2 ^ 4)
  have hx2 := lt_of_bit hw hx
  have key : ∀ m v : Nat, m < 2 ^ n → v < 2 ^ n → (v &&& m == v) = true → (∀ z, z < 2 ^ n → (z &&& m == v) = true → w.testBit z = true) → (∀ z, z / 2 = x / 2 → w.testBit z = true → (z &&& m == v) = true) → ∃ i ∈ List.range (prl n w (2 ^ n)).length, ∀ z, z / 2 = x / 2 → w.testBit z = true → (wdO n (prl n w (2 ^ n)) i).testBit z = true := by
    intro m v hm hv hmv h1 h2
    obtain ⟨m', v', g1, g2, g3, g4⟩ := extend n w hn _ m v (Nat.lt_succ_self m) hm hmv (imp_of hv hmv h1)
    have hle : v' ≤ m' := by rw [← eq_of_beq g2]; exact Nat.and_le_right
    have hmem : (m', v') ∈ prl n w (2 ^ n) := (prl_mem n w _ _).2 ⟨m', g1, v', by omega, g2, g3, rfl⟩
    obtain ⟨i, hi, he⟩ := List.getElem_of_mem hmem
    refine ⟨i, List.mem_range.2 hi, fun z hz hb => ?_⟩
    have hz2 := lt_of_bit hw hb
    rw [wdO_bit, getD_o _ i hi, he, decide_eq_true hz2, Bool.true_and]
    dsimp only
    rw [g4 z (by omega) (eq_of_beq (h2 z hz hb)), beq_self_eq_true]
  cases hy : w.testBit (x ^^^ 1) with
  | true =>
    have hy2 := lt_of_bit hw hy
    obtain ⟨p1, p2⟩ := pr2 n hn x hx2 hy2
    have hle : x &&& (2 ^ n - 2) ≤ x := Nat.and_le_left
    have hpos : 0 < 2 ^ n := Nat.two_pow_pos n
    refine key (2 ^ n - 2) (x &&& (2 ^ n - 2)) (by omega) (by omega) p1 (fun z hz h => ?_) (fun z hz hb => ?_)
    · rw [p2 z hz, Bool.or_eq_true, beq_iff_eq, beq_iff_eq] at h
      rcases h with rfl | rfl
      · exact hx
      · exact hy
    · have hz2 := lt_of_bit hw hb
      rw [p2 z hz2, ← pr3 x (by omega) z (by omega)]
      exact beq_iff_eq.2 hz
  | false =>
    obtain ⟨p1, p2⟩ := pr1 n hn x hx2
    have hpos : 0 < 2 ^ n := Nat.two_pow_pos n
    refine key (2 ^ n - 1) x (by omega) hx2 p1 (fun z hz h => ?_) (fun z hz hb => ?_)
    · rw [p2 z hz, beq_iff_eq] at h
      rw [h]; exact hx
    · have hz2 := lt_of_bit hw hb
      rw [p2 z hz2]
      have h3 := pr3 x (by omega) z (by omega)
      rw [beq_iff_eq.2 hz] at h3
      have h4 := h3.symm
      rw [Bool.or_eq_true, beq_iff_eq, beq_iff_eq] at h4
      rcases h4 with rfl | rfl
      · exact beq_iff_eq.2 rfl
      · rw [hy] at hb; cases hb
theorem eight (n w : Nat) (hn : n ≤ 4) (hw : w < 2 ^ 2 ^ n) : cvr (wdO n (prl n w (2 ^ n))) (List.range (prl n w (2 ^ n)).length) 8 w ≠ none := by
  have hs : 2 ^ n ≤ 16 := (Nat.pow_le_pow_right (by decide) hn : 2 ^ n ≤ 2 ^ 4)
  obtain ⟨s, h1, h2, h3⟩ := pick_each (fun j i => ∀ z, z / 2 = j → w.testBit z = true → (wdO n (prl n w (2 ^ n)) i).testBit z = true) (List.range (prl n w (2 ^ n)).length) 8
  refine cvr_full _ _ 8 w s h1 h2 fun x hx => ?_
  have hx2 := lt_of_bit hw hx
  obtain ⟨i, hi, hp⟩ := h3 (x / 2) (by omega) (prime_for n w hn hw x hx)
  exact ⟨i, hi, hp x rfl hx⟩
end Go.Proofs.YtmhlcbibbhelkaaDoor
namespace Go.Proofs.YtmhlcbibbhelkaaDoor
open Go.Rv
set_option linter.unusedVariables false
variable {β : Type}
end Go.Proofs.YtmhlcbibbhelkaaDoor
namespace Go.Proofs.YtmhlcbibbhelkaaDoor
open Go.Rv
set_option linter.unusedSimpArgs false
set_option linter.unusedSectionVars false
variable {β : Type}
section
variable (N : Nat) (hN : 1048576 < N) {n : Nat} (hn : n ≤ 3) {T : List Int} (hT : SzOK n T) {w : Nat} (hw : w < 2 ^ 2 ^ n) (g : Nat → List UInt8) (hg : ∀ x, (g x).length ≤ 1000)
include hN hn hT hw hg
theorem impl_a_loop (o : Bool) (self : Int → Int → List Int → (ByteArray → Option β) → Option β) (hs : ∀ x, x < 2 ^ 2 ^ n → 1 ≤ gt T x → gt T x < gt T w → ∀ K, self (n : Int) (x : Int) T K = K (B (g x))) (x2 x3 : Int) (x9 : List Int) (k0 : ByteArray → Option β) (k1 : List Int → Int → Int → Int → Int → List Int → Option β) :
    ∀ (d F i : Nat), i + d = 2 ^ 2 ^ n → d < F → zj43 N self F T (cond o 38 124) x2 x3 T (T.length : Int) (i : Int) (n : Int) (w : Int) x9 k0 k1 =
      match pairA T o w (2 ^ 2 ^ n) d i with
      | some (a, b) => k0 (B (cond o 38 124 :: g a ++ g b))
      | none => k1 T x2 x3 (n : Int) (w : Int) x9
  | d, 0, _, _, h => absurd h (Nat.not_lt_zero _)
  | 0, F + 1, i, hi, _ => by
    have hL := hT.len
    obtain rfl : i = 2 ^ 2 ^ n := by omega
    show zj42 N self T (cond o 38 124) x2 x3 T (T.length : Int) _ (n : Int) (w : Int) x9 _ k0 k1 = _
    unfold zj42
    rw [decide_eq_false (by omega)]
    rfl
  | d + 1, F + 1, i, hi, hF => by
    have hL := hT.len
    have hlw := hT.le w
    have hL2 : 2 ^ 2 ^ n ≤ 256 := by
      obtain rfl | rfl | rfl | rfl : n = 0 ∨ n = 1 ∨ n = 2 ∨ n = 3 := by omega
      all_goals decide
    have ih := impl_a_loop o self hs x2 x3 x9 k0 k1 d F (i + 1) (by omega) (by omega)
    show zj42 N self T (cond o 38 124) x2 x3 T (T.length : Int) (i : Int) (n : Int) (w : Int) x9 _ k0 k1 = _
    unfold zj42
    rw [decide_eq_true (by omega : (i : Int) < (T.length : Int)), cond_true, gd_true (decide_eq_true (by omega)), gd_true rfl, gd_true (decide_eq_true (by omega)), gd_true (decide_eq_true (by omega)), rd_gt, rd_gt, w64_succ i (by omega)]
    have hp : pairA T o w (2 ^ 2 ^ n) (d + 1) i = cond (decide (1 ≤ gt T i) && decide (gt T i < gt T w)) (match pairB T o w i (2 ^ 2 ^ n) 0 with | some b => some (i, b) | none => pairA T o w (2 ^ 2 ^ n) d (i + 1)) (pairA T o w (2 ^ 2 ^ n) d (i + 1)) := rfl
    rw [hp]
    by_cases e0 : 1 ≤ gt T i
    · rw [decide_eq_false (by omega : ¬ gt T i < 1), cond_false, decide_eq_true e0, Bool.true_and]
      by_cases e1 : gt T i < gt T w
      · rw [decide_eq_false (by omega : ¬ gt T i ≥ gt T w), cond_false, decide_eq_true e1, cond_true]
        have hb := impl_b_loop N hN hn hT hw (by omega : i < 2 ^ 2 ^ n) g hg e0 e1 o self hs x2 x3 T (T.length : Int) (i : Int) x9 k0 (fun e0 e1 e2 e3 e4 e5 e6 e7 e8 e9 => zj43 N self F e0 e1 e2 e3 e4 e5 (w64 (e6 + 1)) e7 e8 e9 k0 k1) (2 ^ 2 ^ n) N 0 (by omega) (by omega)
        refine Eq.trans hb ?_
        cases pairB T o w i (2 ^ 2 ^ n) 0 with
        | some b => rfl
        | none =>
          show zj43 N self F T (cond o 38 124) x2 x3 T (T.length : Int) (w64 ((i : Int) + 1)) (n : Int) (w : Int) x9 k0 k1 = _
          rw [w64_succ i (by omega)]
          exact ih
      · rw [decide_eq_true (by omega : gt T i ≥ gt T w), cond_true, decide_eq_false e1, cond_false]
        exact ih
    · rw [decide_eq_true (by omega : gt T i < 1), cond_true, decide_eq_false e0, Bool.false_and, cond_false]
      exact ih
theorem impl_o_loop (self : Int → Int → List Int → (ByteArray → Option β) → Option β) (hs : ∀ x, x < 2 ^ 2 ^ n → 1 ≤ gt T x → gt T x < gt T w → ∀ K, self (n : Int) (x : Int) T K = K (B (g x))) (k0 : ByteArray → Option β) (k1 : Option β) :
    zj45 N self N T 2 0 (n : Int) (w : Int) [38, 124] k0 k1 =
      match pairA T true w (2 ^ 2 ^ n) (2 ^ 2 ^ n) 0 with
      | some (a, b) => k0 (B (38 :: g a ++ g b))
      | none => match pairA T false w (2 ^ 2 ^ n) (2 ^ 2 ^ n) 0 with
        | some (a, b) => k0 (B (124 :: g a ++ g b))
        | none => k1 := by
  obtain ⟨M, rfl⟩ : ∃ M, N = M + 3 := ⟨N - 3, by omega⟩
  have hL2 : 2 ^ 2 ^ n ≤ 256 := by
    obtain rfl | rfl | rfl | rfl : n = 0 ∨ n = 1 ∨ n = 2 ∨ n = 3 := by omega
    all_goals decide
  have ha := fun o x3 k0 (k1 : List Int → Int → Int → Int → Int → List Int → Option β) => impl_a_loop (M + 3) hN hn hT hw g hg o self hs 2 x3 [38, 124] k0 k1 (2 ^ 2 ^ n) (M + 3) 0 (by omega) (by omega)
  show zj44 (M + 3) self T 2 0 (n : Int) (w : Int) [38, 124] (fun v0 v1 v2 v3 v4 v5 => zj45 (M + 3) self (M + 2) v0 v1 v2 v3 v4 v5 k0 k1) k0 k1 = _
  unfold zj44
  refine Eq.trans (ha true 0 _ _) ?_
  cases pairA T true w (2 ^ 2 ^ n) (2 ^ 2 ^ n) 0 with
  | some p => rfl
  | none =>
    show zj44 (M + 3) self T 2 1 (n : Int) (w : Int) [38, 124] (fun v0 v1 v2 v3 v4 v5 => zj45 (M + 3) self (M + 1) v0 v1 v2 v3 v4 v5 k0 k1) k0 k1 = _
    unfold zj44
    refine Eq.trans (ha false 1 _ _) ?_
    cases pairA T false w (2 ^ 2 ^ n) (2 ^ 2 ^ n) 0 with
    | some p => rfl
    | none => rfl
end
theorem xor_full : ∀ n, n ≤ 3 → ∀ w, w < 2 ^ 2 ^ n → w ^^^ (2 ^ 2 ^ n - 1) = full n - w ∧ w ≤ full n ∧ full n < 256 := by decide +kernel
theorem impl_not3 (N : Nat) {n w : Nat} (hn : n ≤ 3) (hw : w < 2 ^ 2 ^ n) (K : Int → Int → Option β) : zj34 N (n : Int) (w : Int) K = K (n : Int) ((full n - w : Nat) : Int) := by
  obtain ⟨h1, h2, h3⟩ := xor_full n hn w hw
  have hs : 2 ^ n ≤ 8 := (Nat.pow_le_pow_right (by decide) hn : 2 ^ n ≤ 2 ^ 3)
  have hfu : full n = 2 ^ 2 ^ n - 1 := rfl
  have hp : 0 < 2 ^ 2 ^ n := Nat.two_pow_pos _
  have hz : (0 : Int) ≤ ((2 ^ n : Nat) : Int) := Int.natCast_nonneg _
  unfold zj34
  rw [impl_Table_size_eq N n _ (by omega), gd_true (decide_eq_true (by omega)), shl_one (2 ^ n) (by omega), show w64 (((2 ^ 2 ^ n : Nat) : Int) - 1) = ((2 ^ 2 ^ n - 1 : Nat) : Int) by rw [w64_id (by omega) (by omega)]; omega, bXor w _ (by omega) (by omega), h1]
theorem impl_var3 (N : Nat) (hN : 64 < N) {n i : Nat} (hn : n ≤ 3) (hi : i < n) (K : Int → Int → Option β) : zj4 N (n : Int) (i : Int) K = K (n : Int) (vw n i : Int) := by
  have hs : 2 ^ n ≤ 8 := (Nat.pow_le_pow_right (by decide) hn : 2 ^ n ≤ 2 ^ 3)
  unfold zj4
  rw [makeTable_eq N hN n (by omega) _ (fun x => x.testBit i) (fun x k hx => by
    unfold zj0
    rw [gd_true (decide_eq_true (by omega)), bit_at x i (by omega)]
    cases x.testBit i <;> rfl), vw_tab n hn i hi]
theorem let_w8 (i : Nat) (h : i < 3) : strOf (([] : List Int) ++ [w8 (97 + w8 (i : Int))]) = B [UInt8.ofNat (97 + i)] := by
  obtain rfl | rfl | rfl : i = 0 ∨ i = 1 ∨ i = 2 := by omega
  all_goals rfl
theorem impl_let (N : Nat) (hN : 1048576 < N) {n : Nat} (hn : n ≤ 3) {w : Nat} (hw : w < 2 ^ 2 ^ n) (T : List Int) (k0 : ByteArray → Option β) (k1 : List Int → Int → Int → Option β) :
    ∀ (d F i : Nat), i + d = n → d < F → zj39 N F T (n : Int) (i : Int) (n : Int) (w : Int) k0 k1 = match letR n w d i with
      | some s => k0 (B s)
      | none => k1 T (n : Int) (w : Int)
  | d, 0, _, _, h => absurd h (Nat.not_lt_zero _)
  | 0, F + 1, i, hi, _ => by
    obtain rfl : i = n := by omega
    show zj38 N T (i : Int) (i : Int) (i : Int) (w : Int) _ k0 k1 = _
    unfold zj38
    rw [decide_eq_false (by omega)]
    rfl
  | d + 1, F + 1, i, hi, hF => by
    have ih := impl_let N hN hn hw T k0 k1 d F (i + 1) (by omega) (by omega)
    have hv := vw_lt n hn i (by omega)
    show zj38 N T (n : Int) (i : Int) (n : Int) (w : Int) _ k0 k1 = _
    unfold zj38
    rw [decide_eq_true (by omega : (i : Int) < (n : Int)), cond_true, impl_var3 N (by omega) hn (by omega), impl_not3 N hn (by omega), let_w8 i (by omega), w64_succ i (by omega), show strOf [33] = B [33] from rfl, gs2 _ _ (by simp), B_app, beq_self_eq_true, Bool.true_and, Bool.true_and, natb, natb]
    have hl : letR n w (d + 1) i = cond (w == vw n i) (some [UInt8.ofNat (97 + i)]) (cond (w == full n - vw n i) (some [33, UInt8.ofNat (97 + i)]) (letR n w d (i + 1))) := rfl
    rw [hl]
    cases w == vw n i with
    | true => rfl
    | false =>
      rw [cond_false, cond_false]
      cases w == full n - vw n i with
      | true => rfl
      | false => exact ih
theorem bw_zero (x : Nat) : bw 0 x = 0 := by unfold bw; rw [Nat.zero_testBit]; rfl
theorem bw_full : ∀ n, n ≤ 3 → bw (full n) 0 = 1 := by decide +kernel
theorem impl_same3 (N : Nat) {n w : Nat} (hn : n ≤ 3) (hw : w < 2 ^ 2 ^ n) (K : Bool → Option β) : zj35 N (n : Int) (w : Int) K = K (w == 0 || w == full n) := by
  obtain ⟨h1, h2, h3⟩ := xor_full n hn w hw
  unfold zj35
  rw [impl_not3 N hn hw, show ((w : Int) == 0) = (w == 0) from natb w 0, show (((full n - w : Nat) : Int) == 0) = (w == full n) by
    rw [show (((full n - w : Nat) : Int) == 0) = (full n - w == 0) from natb _ 0, Bool.eq_iff_iff, beq_iff_eq, beq_iff_eq]; omega]
  cases w == 0 <;> rfl
theorem impl_write {N : Nat} (hN : 1048576 < N) {n : Nat} (hn : n ≤ 3) {T : List Int} (hT : SzOK n T) : ∀ (F w : Nat), w < 2 ^ 2 ^ n → gt T w < F → ∀ K : ByteArray → Option β, zj47 N F (n : Int) (w : Int) T K = K (B (fmF T n F w))
  | 0, w, _, h, _ => by have := hT.le w; have := hT.len; omega
  | F + 1, w, hw, hF, K => by
    have hL := hT.len
    obtain ⟨h1, h2, h3⟩ := xor_full n hn w hw
    have hs : ∀ x, x < 2 ^ 2 ^ n → 1 ≤ gt T x → gt T x < gt T w → ∀ K : ByteArray → Option β, zj47 N F (n : Int) (x : Int) T K = K (B (fmF T n F x)) := fun x hx _ h2 K => impl_write hN hn hT F x hx (by omega) K
    show zj46 N (zj47 N F) (n : Int) (w : Int) T K = _
    unfold zj46 fmF
    rw [impl_same3 N hn hw]
    cases h0 : w == 0 with
    | true =>
      have : w = 0 := by simpa using h0
      subst this
      rw [Bool.true_or, cond_true, cond_true]
      have ha := impl_Table_at_eq (β := β) N 0 0 (n : Int) (by omega) fun r5 => zj37 N r5 K
      refine Eq.trans ha ?_
      rw [bw_zero, impl_FormatInt_eq N _ (by unfold in64; omega)]
      have hi : Lib.itoa ((0 : Nat) : Int) = [48] := itoa_bit false
      rw [hi]
    | false =>
      rw [Bool.false_or, cond_false]
      cases h1 : w == full n with
      | true =>
        have : w = full n := by simpa using h1
        subst this
        rw [cond_true, cond_true]
        have ha := impl_Table_at_eq (β := β) N (full n) 0 (n : Int) (by omega) fun r5 => zj37 N r5 K
        refine Eq.trans ha ?_
        rw [bw_full n hn, impl_FormatInt_eq N _ (by unfold in64; omega)]
        have hi : Lib.itoa ((1 : Nat) : Int) = [49] := itoa_bit true
        rw [hi]
      | false =>
        rw [cond_false, cond_false, gd_true (decide_eq_true (by omega)), gd_true (decide_eq_true (by omega)), rd_gt]
        have ho := impl_o_loop N hN hn hT hw (fmF T n F) (fm_1000 hT F) (zj47 N F) hs (fun e => K e) (K ByteArray.empty)
        have tail : zj45 N (zj47 N F) N T 2 0 (n : Int) (w : Int) [38, 124] (fun e => K e) (K ByteArray.empty) = K (B (match pairA T true w (2 ^ 2 ^ n) (2 ^ 2 ^ n) 0 with
          | some (a, b) => 38 :: fmF T n F a ++ fmF T n F b
          | none => match pairA T false w (2 ^ 2 ^ n) (2 ^ 2 ^ n) 0 with
            | some (a, b) => 124 :: fmF T n F a ++ fmF T n F b
            | none => [])) := by
          refine Eq.trans ho ?_
          cases pairA T true w (2 ^ 2 ^ n) (2 ^ 2 ^ n) 0 with
          | some p => rfl
          | none =>
            cases pairA T false w (2 ^ 2 ^ n) (2 ^ 2 ^ n) 0 with
            | some p => rfl
            | none => rfl
        by_cases e1 : gt T w = 1
        · rw [show (gt T w == 1) = true by simp [e1], cond_true, decide_eq_true e1, cond_true]
          refine Eq.trans (impl_let N hN hn hw T (fun e => K e) _ n N 0 (by omega) (by omega)) ?_
          cases letR n w n 0 with
          | some s => rfl
          | none => exact tail
        · rw [show (gt T w == 1) = false by simp [e1], cond_false, decide_eq_false e1, cond_false]
          exact tail
end Go.Proofs.YtmhlcbibbhelkaaDoor
namespace Go.Proofs.YtmhlcbibbhelkaaDoor
open Go.Rv
set_option linter.unusedSimpArgs false
set_option linter.unusedVariables false
variable {β : Type}
theorem Smallest_both (N : Nat) (hN : 1048576 < N) (n w : Nat) (hn : n ≤ 5) (hw : w < 2 ^ 2 ^ n) : (∀ K : ByteArray → Bool → Option β, zj27 N (n : Int) (w : Int) K = cond (decide (n ≤ 3)) (K (B (fmF (szT n) n N w)) true) (K (B []) false)) ∧ (∀ K : ByteArray → Bool → Option β, zj49 N (n : Int) (w : Int) K = cond (decide (n ≤ 3)) (K (B (fmF (szT n) n N w)) true) (K (B []) false)) := by
  have hs : 2 ^ n ≤ 32 := (Nat.pow_le_pow_right (by decide) hn : 2 ^ n ≤ 2 ^ 5)
  have hw32 : w < 2 ^ 32 := Nat.lt_of_lt_of_le hw (Nat.pow_le_pow_right (by decide) hs)
  constructor
  · intro K
    unfold zj27
    rw [spec_IsTable_eq, isTn hn hw, Bool.not_true, cond_false]
    by_cases h3 : n ≤ 3
    · have hT := szT_ok h3
      have hl := hT.le w
      rw [decide_eq_false (by omega : ¬ (n : Int) > 3), cond_false, decide_eq_true h3, cond_true]
      unfold spec_l22Sizes zj26
      rw [gd_true (decide_eq_true (by omega)), gd_true (decide_eq_true (by omega)), Int.toNat_natCast]
      exact spec_write hN h3 hT N w hw (by omega) _
    · rw [decide_eq_true (by omega : (n : Int) > 3), cond_true, decide_eq_false h3, cond_false, B_nil]
  · intro K
    unfold zj49 zj33
    rw [impl_IsTable_eq N _ _ (by omega), isTn hn hw, cond_true]
    by_cases h3 : n ≤ 3
    · have hT := szT_ok h3
      have hl := hT.le w
      rw [decide_eq_true (by omega : (n : Int) ≤ 3)]
      dsimp only
      rw [Bool.not_true, cond_false, decide_eq_true h3, cond_true]
      unfold impl_sizes zj48
      rw [gd_true (decide_eq_true (by omega)), gd_true (decide_eq_true (by omega)), Int.toNat_natCast]
      exact impl_write hN h3 hT N w hw (by omega) _
    · rw [decide_eq_false (by omega : ¬ (n : Int) ≤ 3)]
      dsimp only
      rw [Bool.not_false, cond_true, decide_eq_false h3, cond_false, B_nil]
end Go.Proofs.YtmhlcbibbhelkaaDoor
namespace Go.Proofs.YtmhlcbibbhelkaaDoor
open Go.Rv
set_option linter.unusedSimpArgs false
set_option linter.unusedVariables false
variable {β : Type}
theorem Size_both (N : Nat) (n w : Nat) (hn : n ≤ 3) (hw : w < 2 ^ 2 ^ n) : (∀ K : Int → Option β, zj28 N (n : Int) (w : Int) K = K (gt (szT n) w)) ∧ (∀ K : Int → Option β, zj50 N (n : Int) (w : Int) K = K (gt (szT n) w)) := by
  have hs : 2 ^ n ≤ 8 := (Nat.pow_le_pow_right (by decide) hn : 2 ^ n ≤ 2 ^ 3)
  have hw32 : w < 2 ^ 8 := Nat.lt_of_lt_of_le hw (Nat.pow_le_pow_right (by decide) hs)
  have hT := szT_ok hn
  have hL := hT.len
  constructor
  · intro K
    unfold zj28 spec_l22Sizes
    rw [spec_IsTable_eq, isTn (by omega) hw, Bool.not_true, cond_false, decide_eq_false (by omega : ¬ (n : Int) > 3), cond_false, gd_true (decide_eq_true (by omega)), gd_true (decide_eq_true (by omega)), Int.toNat_natCast]
    dsimp only
    rw [gd_true (decide_eq_true (by omega)), gd_true (decide_eq_true (by omega)), rd_gt]
  · intro K
    unfold zj50 zj33 impl_sizes
    rw [impl_IsTable_eq N _ _ (by omega), isTn (by omega) hw, cond_true, decide_eq_true (by omega : (n : Int) ≤ 3)]
    dsimp only
    rw [Bool.not_true, cond_false, gd_true (decide_eq_true (by omega)), gd_true (decide_eq_true (by omega)), Int.toNat_natCast, gd_true (decide_eq_true (by omega))]
    first
      | rw [gd_true (decide_eq_true (by omega)), rd_gt]
      | rw [gd_tt, rd_gt]
theorem Claim_both (N : Nat) (hN : 1048576 < N) (a0 a1 : Int) (h1 : a1 < 9223372036854775808) : ∃ (x : Int) (s : List UInt8) (b : Bool),
    (∀ K : Int → Int → Int → Int → Int → ByteArray → List Int → Bool → Option β, zj29 N a0 a1 K = cond b (K 4 a0 a1 x 0 (B s) [] true) (K 0 0 0 0 0 ByteArray.empty [] false)) ∧
    (∀ K : Int → Int → Int → Int → Int → ByteArray → List Int → Bool → Option β, zj51 N a0 a1 K = cond b (K 4 a0 a1 x 0 (B s) [] true) (K 0 0 0 0 0 ByteArray.empty [] false)) := by
  unfold zj29 zj51
  cases ht : isT a0 a1 with
  | false =>
    refine ⟨0, [], false, fun K => ?_, fun K => ?_⟩
    · unfold zj27
      rw [spec_IsTable_eq, ht]
      rfl
    · unfold zj49 zj33
      rw [impl_IsTable_eq N _ _ h1, ht]
      rfl
  | true =>
    obtain ⟨n, w, rfl, rfl, hn, hw, hw2⟩ := isT_nat ht
    obtain ⟨e1, e2⟩ := Smallest_both (β := β) N hN n w hn hw
    by_cases h3 : n ≤ 3
    · obtain ⟨f1, f2⟩ := Size_both (β := β) N n w h3 hw
      refine ⟨gt (szT n) w, fmF (szT n) n N w, true, fun K => ?_, fun K => ?_⟩
      · rw [e1, decide_eq_true h3, cond_true, Bool.not_true, cond_false, f1, cond_true]
      · rw [e2, decide_eq_true h3, cond_true, Bool.not_true, cond_false, f2, cond_true]
    · refine ⟨0, [], false, fun K => ?_, fun K => ?_⟩
      · rw [e1, decide_eq_false h3]
        rfl
      · rw [e2, decide_eq_false h3]
        rfl
theorem law_ClaimOfFormula (N : Nat) (hN : 1048576 < N) (a0 a1 : Int) (h0 : -9223372036854775808 ≤ a0 ∧ a0 ≤ 9223372036854775807) (h1 : -9223372036854775808 ≤ a1 ∧ a1 ≤ 9223372036854775807) (k : Bool → Option β) :
    laws_FnExactClaimOfFormula N a0 a1 k = k true := by
  have e0 : ([] : List Int).length ≤ 1048576 := by simp
  have hc : ∀ n : Nat, decide (((1 + n : Nat) : Int) < 0) = false := fun n => decide_eq_false (by omega)
  obtain ⟨x, s, b, e1, e2⟩ := Claim_both (β := β) N hN a0 a1 (by omega)
  unfold laws_FnExactClaimOfFormula zj12
  simp only [e1, e2]
  cases b with
  | true => simp only [cond_true, laws_eqClaim_same N _ _ _ _ _ _ _ e0 hN, laws_markClaim_eq N _ _ _ _ _ _ _ e0 hN, laws_heldClaim_eq N _ _ _ _ _ _ _ e0 hN, hc, beq_self_eq_true, Bool.not_true, cond_false, bne_self_eq_false]
  | false => simp only [laws_eqClaim_same N _ _ _ _ _ _ _ e0 hN, laws_markClaim_eq N _ _ _ _ _ _ _ e0 hN, laws_heldClaim_eq N _ _ _ _ _ _ _ e0 hN, hc, beq_self_eq_true, Bool.not_true, Bool.not_false, cond_true, cond_false, bne_self_eq_false]
end Go.Proofs.YtmhlcbibbhelkaaDoor
