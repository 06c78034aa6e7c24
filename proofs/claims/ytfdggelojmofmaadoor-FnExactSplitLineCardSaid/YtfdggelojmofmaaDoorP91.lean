/- Plain laws of the texts. -/
import Derived.Test.YtfdggelojmofmaaDoorT0
import Derived.Test.YtfdggelojmofmaaDoorRvNum
namespace Go.Proofs.YtfdggelojmofmaaDoor
open Go.Rv

variable {β : Type}
/-- A round of a comparison. -/
def eqStep (l m : List Int) (i : Int) (rec_ : Int → Option β) (k0 : Bool → Option β) (k1 : Option β) : Option β :=
  cond (decide (i < (l.length : Int))) (gd (decide (0 ≤ i)) (gd (decide (i < (l.length : Int))) (gd (decide (0 ≤ i)) (gd (decide (i < (m.length : Int))) (cond (rd 0 l i != rd 0 m i) (k0 false) (rec_ (w64 (i + 1)))))))) k1

theorem eq_loop (l m : List Int) (hl : l.length ≤ 1048576) (hlm : l.length = m.length) (k0 : Bool → Option β) (k1 : Option β) (g : Nat → Int → Option β) (hg : ∀ F i, g (F + 1) i = eqStep l m i (g F) k0 k1) :
    ∀ (F i : Nat), l.length - i < F → i ≤ l.length → g F (i : Int) = cond (l.drop i == m.drop i) k1 (k0 false) := by
  intro F
  induction F with
  | zero => intro i h; omega
  | succ F ih =>
    intro i hF hi
    rw [hg]
    unfold eqStep
    by_cases hlt : i < l.length
    · have hlt' : i < m.length := by omega
      rw [decide_eq_true (by omega : (i : Int) < (l.length : Int)), decide_eq_true (by omega : 0 ≤ (i : Int)), decide_eq_true (by omega : (i : Int) < (m.length : Int)), rd_nat 0 l i hlt, rd_nat 0 m i hlt']
      simp only [cond_true, gd]
      have hd : (l.drop i == m.drop i) = (l[i] == m[i] && l.drop (i + 1) == m.drop (i + 1)) := by
        rw [List.drop_eq_getElem_cons hlt, List.drop_eq_getElem_cons hlt']; rfl
      rw [hd]
      by_cases he : l[i] = m[i]
      · rw [show w64 ((i : Int) + 1) = ((i + 1 : Nat) : Int) by rw [w64_id] <;> omega, ih (i + 1) (by omega) (by omega)]
        rw [show (l[i] != m[i]) = false by simp [he], show (l[i] == m[i]) = true by simp [he]]
        rfl
      · rw [show (l[i] != m[i]) = true by simp [he], show (l[i] == m[i]) = false by simp [he]]
        rfl
    · rw [decide_eq_false (by omega : ¬ (i : Int) < (l.length : Int)), List.drop_eq_nil_of_le (by omega), List.drop_eq_nil_of_le (by omega)]
      rfl
end Go.Proofs.YtfdggelojmofmaaDoor
namespace Go.Proofs.YtfdggelojmofmaaDoor
open Go.Rv
variable {β : Type}

end Go.Proofs.YtfdggelojmofmaaDoor
namespace Go.Proofs.YtfdggelojmofmaaDoor
open Go.Rv
set_option linter.unusedVariables false
variable {β : Type}
/-- A table's word, input by input. -/
def tabw (g : Nat → Bool) : Nat → Nat
  | 0 => 0
  | i + 1 => tabw g i ||| (if g i then 2 ^ i else 0)
theorem tabw_lt (g : Nat → Bool) : ∀ i, tabw g i < 2 ^ i
  | 0 => by simp [tabw]
  | i + 1 => by
    have := tabw_lt g i
    unfold tabw
    have h2 : 2 ^ (i + 1) = 2 ^ i + 2 ^ i := by rw [Nat.pow_succ]; omega
    refine Nat.or_lt_two_pow (by omega) ?_
    split
    · have := Nat.two_pow_pos i; omega
    · exact Nat.two_pow_pos _
theorem tabw_congr {g h : Nat → Bool} : ∀ {n : Nat}, (∀ i, i < n → g i = h i) → tabw g n = tabw h n
  | 0, _ => rfl
  | n + 1, e => by
    unfold tabw
    rw [tabw_congr (n := n) fun i hi => e i (by omega), e n (by omega)]

theorem pow_le_64 {n : Nat} (h : n ≤ 62) : 2 ^ n < 9223372036854775808 := Nat.lt_of_le_of_lt (Nat.pow_le_pow_right (by decide) h) (by decide)
theorem size_le {n : Nat} (h : n ≤ 5) : 2 ^ n ≤ 32 := Nat.le_trans (Nat.pow_le_pow_right (by decide) h) (by decide)

theorem shl_one (n : Nat) (h : n ≤ 62) : shlI .i64 1 (n : Int) = ((2 ^ n : Nat) : Int) := by
  have := shl_nat 1 n (by omega) (by rw [Nat.one_mul]; exact pow_le_64 h)
  rw [Nat.one_mul] at this
  exact this

def ys (x i b : Nat) : Nat := x - (x &&& 2 ^ i) + b * 2 ^ i
theorem ys_eq : ∀ x, x < 32 → ∀ i, i < 5 → ∀ b, b < 2 → ys x i b = (x ^^^ (x &&& 2 ^ i)) ||| (b * 2 ^ i) ∧ ys x i b < 64 ∧ (x &&& 2 ^ i) ≤ x ∧ (x ^^^ (x &&& 2 ^ i)) < 32 := by decide +kernel

/-- A bit of a word, as the program takes it. -/
theorem bit_at (w y : Nat) (hw : w < 9223372036854775808) : bits .and .i64 (shrI .i64 (w : Int) (y : Int)) 1 = ((if w.testBit y then 1 else 0 : Nat) : Int) := by
  rw [shr_nat w y hw]
  have h1 : w / 2 ^ y < 2 ^ 63 := Nat.lt_of_le_of_lt (Nat.div_le_self _ _) hw
  have := bAnd (w / 2 ^ y) 1 h1 (by decide)
  rw [show ((1 : Nat) : Int) = 1 from rfl] at this
  rw [this, Nat.and_one_is_mod]
  congr 1
  rw [Nat.testBit, Nat.shiftRight_eq_div_pow, Nat.and_comm, Nat.and_one_is_mod]
  have := Nat.mod_two_eq_zero_or_one (w / 2 ^ y)
  rcases this with h | h <;> simp [h]

/-- What a table is. -/
def isT (a0 a1 : Int) : Bool := decide (0 ≤ a0) && decide (a0 ≤ 5) && decide (0 ≤ a1) && decide (a1 < 2 ^ 2 ^ a0.toNat)

theorem isT_nat {a0 a1 : Int} (h : isT a0 a1 = true) : ∃ n w : Nat, a0 = n ∧ a1 = w ∧ n ≤ 5 ∧ w < 2 ^ 2 ^ n ∧ w < 4294967296 := by
  simp only [isT, Bool.and_eq_true, decide_eq_true_eq] at h
  obtain ⟨⟨⟨h1, h2⟩, h3⟩, h4⟩ := h
  obtain ⟨n, rfl⟩ := Int.eq_ofNat_of_zero_le h1
  obtain ⟨w, rfl⟩ := Int.eq_ofNat_of_zero_le h3
  simp only [Int.toNat_natCast] at h4
  have h5 : w < 2 ^ 2 ^ n := by exact_mod_cast h4
  have h6 : 2 ^ 2 ^ n ≤ 2 ^ 32 := Nat.pow_le_pow_right (by decide) (size_le (by omega))
  exact ⟨n, w, rfl, rfl, by omega, h5, by omega⟩

theorem shl_u64 : ∀ n : Nat, n ≤ 5 → shlI .u64 1 (n : Int) = ((2 ^ n : Nat) : Int) := by decide +kernel

theorem spec_IsTable_eq (N : Nat) (a0 a1 : Int) (k : Bool → Option β) : zj2 N a0 a1 k = k (isT a0 a1) := by
  unfold zj2 zj1
  by_cases h0 : 0 ≤ a0
  · rw [decide_eq_true (by omega : a0 ≥ 0)]
    simp only [cond_true]
    by_cases h5 : a0 ≤ 5
    · rw [decide_eq_true h5]
      obtain ⟨n, rfl⟩ := Int.eq_ofNat_of_zero_le h0
      have hn : n ≤ 5 := by omega
      have hs := size_le hn
      have hp := pow_le_64 (n := 2 ^ n) (by omega)
      have hpos := Nat.two_pow_pos (2 ^ n)
      simp only [cond_true]
      rw [gd_true rfl, shl_u64 n hn, gd_true (decide_eq_true (Int.natCast_nonneg _)), shl_one (2 ^ n) (by omega), w64_id (by omega) (by omega)]
      have e : isT (n : Int) a1 = (decide (0 ≤ a1) && decide (a1 < ((2 ^ 2 ^ n : Nat) : Int))) := by
        simp only [isT, Int.toNat_natCast, decide_eq_true (by omega : 0 ≤ (n : Int)), decide_eq_true (by omega : (n : Int) ≤ 5), Bool.true_and]
        push_cast
        rfl
      rw [e]
      by_cases h1 : 0 ≤ a1
      · rw [decide_eq_true (by omega : a1 ≥ 0)]
        simp only [cond_true, Bool.true_and]
        congr 1
        exact decide_eq_decide.2 (by omega)
      · rw [decide_eq_false (by omega : ¬ a1 ≥ 0)]; rfl
    · rw [decide_eq_false h5]
      simp [isT, h5]
  · rw [decide_eq_false (by omega : ¬ a0 ≥ 0)]
    simp [isT, h0]

theorem impl_IsTable_eq (N : Nat) (a0 a1 : Int) (h : a1 < 9223372036854775808) (k : Bool → Option β) : zj61 N a0 a1 k = k (isT a0 a1) := by
  unfold zj61 zj59 zj60
  by_cases h0 : 0 ≤ a0
  · rw [decide_eq_true (by omega : a0 ≥ 0)]
    simp only [cond_true]
    by_cases h5 : a0 ≤ 5
    · rw [decide_eq_true h5]
      obtain ⟨n, rfl⟩ := Int.eq_ofNat_of_zero_le h0
      have hn : n ≤ 5 := by omega
      have hs := size_le hn
      have hpos := Nat.two_pow_pos (2 ^ n)
      simp only [cond_true]
      rw [gd_true rfl]
      have e : isT (n : Int) a1 = (decide (0 ≤ a1) && decide (a1 < ((2 ^ 2 ^ n : Nat) : Int))) := by
        simp only [isT, Int.toNat_natCast, decide_eq_true (by omega : 0 ≤ (n : Int)), decide_eq_true (by omega : (n : Int) ≤ 5), Bool.true_and]
        push_cast
        rfl
      rw [e]
      by_cases h1 : 0 ≤ a1
      · obtain ⟨w, rfl⟩ := Int.eq_ofNat_of_zero_le h1
        rw [decide_eq_true (by omega : (w : Int) ≥ 0), shl_one n (by omega)]
        simp only [cond_true, Bool.true_and]
        rw [gd_true (decide_eq_true (Int.natCast_nonneg _)), shr_nat w (2 ^ n) (by omega)]
        congr 1
        have : w / 2 ^ 2 ^ n = 0 ↔ w < 2 ^ 2 ^ n := by
          rw [Nat.div_eq_zero_iff]
          omega
        by_cases hw : w < 2 ^ 2 ^ n
        · rw [this.2 hw, decide_eq_true (by omega)]; rfl
        · rw [decide_eq_false (by omega)]
          have : ¬ w / 2 ^ 2 ^ n = 0 := fun h => hw (this.1 h)
          simp only [beq_eq_false_iff_ne, ne_eq]
          omega
      · rw [decide_eq_false (by omega : ¬ a1 ≥ 0)]; rfl
    · rw [decide_eq_false h5]
      simp [isT, h5]
  · rw [decide_eq_false (by omega : ¬ a0 ≥ 0)]
    simp [isT, h0]
end Go.Proofs.YtfdggelojmofmaaDoor
namespace Go.Proofs.YtfdggelojmofmaaDoor
open Go.Rv
set_option linter.unusedVariables false
variable {β : Type}
theorem tabw_bit (g : Nat → Bool) : ∀ (n x : Nat), (tabw g n).testBit x = (decide (x < n) && g x)
  | 0, x => by simp [tabw]
  | n + 1, x => by
    unfold tabw
    rw [Nat.testBit_or, tabw_bit g n x]
    by_cases hx : x = n
    · subst hx
      cases hg : g x <;> simp [Nat.testBit_two_pow_self]
    · have h1 : (if g n then 2 ^ n else 0 : Nat).testBit x = false := by
        split
        · exact Nat.testBit_two_pow_of_ne (Ne.symm hx)
        · exact Nat.zero_testBit _
      rw [h1, Bool.or_false]
      congr 1
      exact decide_eq_decide.2 (by omega)

theorem tabw_eq_iff (g h : Nat → Bool) (n : Nat) : tabw g n = tabw h n ↔ ∀ x, x < n → g x = h x := by
  refine ⟨fun e x hx => ?_, fun e => tabw_congr e⟩
  have := congrArg (fun t => t.testBit x) e
  simpa [tabw_bit, hx] using this

theorem tabw_self (w n : Nat) (h : w < 2 ^ n) : tabw w.testBit n = w := by
  apply Nat.eq_of_testBit_eq
  intro x
  rw [tabw_bit]
  by_cases hx : x < n
  · simp [hx]
  · have : w.testBit x = false := Nat.testBit_lt_two_pow (Nat.lt_of_lt_of_le h (Nat.pow_le_pow_right (by decide) (by omega)))
    simp [hx, this]

/-- A bit put in between. -/
def ins (x i b : Nat) : Nat := (x / 2 ^ i) * 2 ^ (i + 1) ||| b * 2 ^ i ||| (x &&& (2 ^ i - 1))
def del (x i : Nat) : Nat := (x / 2 ^ (i + 1)) * 2 ^ i ||| (x &&& (2 ^ i - 1))
theorem del_ins : ∀ n, n ≤ 5 → ∀ i, i < n → ∀ x, x < 2 ^ n → del x i < 2 ^ (n - 1) ∧ ins (del x i) i (x / 2 ^ i % 2) = x ∧ ∀ b, b < 2 → ys x i b = ins (del x i) i b := by decide +kernel
theorem ins_lt1 : ∀ n, n ≤ 5 → ∀ i, i < n → ∀ x, x < 2 ^ (n - 1) → ins x i 0 < 2 ^ n ∧ ins x i 1 < 2 ^ n := by decide +kernel
theorem ins_ys : ∀ n, n ≤ 5 → ∀ i, i < n → ∀ x, x < 2 ^ (n - 1) → ys (ins x i 0) i 0 = ins x i 0 ∧ ys (ins x i 0) i 1 = ins x i 1 ∧ ys (ins x i 1) i 0 = ins x i 0 ∧ ys (ins x i 1) i 1 = ins x i 1 := by decide +kernel
theorem ins_lt (n : Nat) (hn : n ≤ 5) (i : Nat) (hi : i < n) (x : Nat) (hx : x < 2 ^ (n - 1)) (b : Nat) (hb : b < 2) : ins x i b < 2 ^ n ∧ ∀ c, c < 2 → ys (ins x i c) i b = ins x i b := by
  obtain ⟨h1, h2⟩ := ins_lt1 n hn i hi x hx
  obtain ⟨h3, h4, h5, h6⟩ := ins_ys n hn i hi x hx
  have hb' : b = 0 ∨ b = 1 := by omega
  rcases hb' with rfl | rfl
  · exact ⟨h1, fun c hc => by have hc' : c = 0 ∨ c = 1 := by omega
                              rcases hc' with rfl | rfl <;> assumption⟩
  · exact ⟨h2, fun c hc => by have hc' : c = 0 ∨ c = 1 := by omega
                              rcases hc' with rfl | rfl <;> assumption⟩

/-- Whether a word depends on an input. -/
def dep (w n i : Nat) : Bool := tabw (fun x => w.testBit (ins x i 0)) (2 ^ (n - 1)) != tabw (fun x => w.testBit (ins x i 1)) (2 ^ (n - 1))

theorem stuck_same (w n i b : Nat) (hn : n ≤ 5) (hi : i < n) (hb : b < 2) (hw : w < 2 ^ 2 ^ n) : (tabw (fun x => w.testBit (ys x i b)) (2 ^ n) == w) = !dep w n i := by
  have key : tabw (fun x => w.testBit (ys x i b)) (2 ^ n) = w ↔ tabw (fun x => w.testBit (ins x i 0)) (2 ^ (n - 1)) = tabw (fun x => w.testBit (ins x i 1)) (2 ^ (n - 1)) := by
    conv => lhs; rhs; rw [← tabw_self w (2 ^ n) hw]
    rw [tabw_eq_iff, tabw_eq_iff]
    constructor
    · intro h x hx
      obtain ⟨a1, a2⟩ := ins_lt n hn i hi x hx 0 (by omega)
      obtain ⟨b1, b2⟩ := ins_lt n hn i hi x hx 1 (by omega)
      have e0 := h _ a1
      have e1 := h _ b1
      have c0 := (ins_lt n hn i hi x hx b hb).2 0 (by omega)
      have c1 := (ins_lt n hn i hi x hx b hb).2 1 (by omega)
      rw [c0] at e0
      rw [c1] at e1
      rw [← e0, ← e1]
    · intro h x hx
      obtain ⟨h1, h2, h3⟩ := del_ins n hn i hi x hx
      have e := h _ h1
      rw [h3 b hb]
      conv => rhs; rw [← h2]
      have hc : x / 2 ^ i % 2 = 0 ∨ x / 2 ^ i % 2 = 1 := by omega
      have hb' : b = 0 ∨ b = 1 := by omega
      rcases hc with hc | hc <;> rcases hb' with rfl | rfl <;> rw [hc] <;> simp only [e]
  unfold dep
  by_cases h : tabw (fun x => w.testBit (ys x i b)) (2 ^ n) = w
  · rw [beq_iff_eq.2 h]
    simp [key.1 h]
  · rw [beq_eq_false_iff_ne.2 h]
    rw [bne_iff_ne.2 fun e => h (key.2 e)]
    rfl

theorem ins_small : ∀ x, x < 32 → ∀ i, i < 5 → x / 2 ^ i * 2 ^ (i + 1) < 64 ∧ (x &&& (2 ^ i - 1)) < 32 ∧ ins x i 0 < 128 ∧ ins x i 1 < 128 := by decide +kernel

/-- The inputs that a word depends on. -/
def vars (w n m : Nat) : List Int := ((List.range m).filter fun i => dep w n i).map Int.ofNat
theorem vars_len (w n m : Nat) : (vars w n m).length ≤ m := by
  unfold vars
  rw [List.length_map]
  exact Nat.le_trans (List.length_filter_le _ _) (by simp)
theorem vars_succ (w n m : Nat) : vars w n (m + 1) = if dep w n m then vars w n m ++ [(m : Int)] else vars w n m := by
  unfold vars
  rw [List.range_succ, List.filter_append, List.map_append]
  cases h : dep w n m <;> simp [h]
end Go.Proofs.YtfdggelojmofmaaDoor
namespace Go.Proofs.YtfdggelojmofmaaDoor
open Go.Rv
set_option linter.unusedVariables false
variable {β : Type}
/-- Numbers one after the other. -/
def marks (a n : Nat) : List Int := (List.range n).map fun i => ((a + i : Nat) : Int)
theorem marks_len (a n : Nat) : (marks a n).length = n := by simp [marks]
theorem marks_get (a n i : Nat) (h : i < n) : (marks a n)[i]? = some ((a + i : Nat) : Int) := by simp [marks, h]
end Go.Proofs.YtfdggelojmofmaaDoor
namespace Go.Proofs.YtfdggelojmofmaaDoor
open Go.Rv
set_option linter.unusedVariables false
variable {β : Type}
/-- Whether an input tells a stuck one apart. -/
def sees (w n x i b : Nat) : Bool := (w ^^^ tabw (fun x => w.testBit (ys x i b)) (2 ^ n)).testBit x
def addIf (c : Bool) (l : List Int) (v : Int) : List Int := if c then l ++ [v] else l
/-- The faults seen at an input. -/
def seen (w n x : Nat) : Nat → List Int
  | 0 => []
  | i + 1 => addIf (sees w n x i 1) (addIf (sees w n x i 0) (seen w n x i) ((2 * i : Nat) : Int)) ((2 * i + 1 : Nat) : Int)
theorem addIf_len (c : Bool) (l : List Int) (v : Int) : (addIf c l v).length ≤ l.length + 1 := by unfold addIf; split <;> simp
theorem seen_len (w n x : Nat) : ∀ i, (seen w n x i).length ≤ 2 * i
  | 0 => by simp [seen]
  | i + 1 => by
    have h1 := seen_len w n x i
    have h2 := addIf_len (sees w n x i 0) (seen w n x i) ((2 * i : Nat) : Int)
    have h3 := addIf_len (sees w n x i 1) (addIf (sees w n x i 0) (seen w n x i) ((2 * i : Nat) : Int)) ((2 * i + 1 : Nat) : Int)
    show (addIf _ (addIf _ _ _) _).length ≤ _
    omega

theorem bit_one (c : Bool) : (((if c then 1 else 0 : Nat) : Int) == 1) = c := by cases c <;> rfl

theorem spec_bit (w t x : Nat) (hw : w < 4294967296) (ht : t < 4294967296) : (bits .and .i64 (bits .xor .i64 (shrI .i64 (w : Int) (x : Int)) (shrI .i64 (t : Int) (x : Int))) 1 == 1) = (w ^^^ t).testBit x := by
  have h1 : w / 2 ^ x < 2 ^ 63 := Nat.lt_of_le_of_lt (Nat.div_le_self _ _) (by omega)
  have h2 : t / 2 ^ x < 2 ^ 63 := Nat.lt_of_le_of_lt (Nat.div_le_self _ _) (by omega)
  rw [shr_nat w x (by omega), shr_nat t x (by omega), bXor _ _ h1 h2]
  have h3 : w / 2 ^ x ^^^ t / 2 ^ x < 2 ^ 63 := Nat.xor_lt_two_pow h1 h2
  have h4 := bit_at (w / 2 ^ x ^^^ t / 2 ^ x) 0 (by omega)
  have h5 : shrI .i64 ((w / 2 ^ x ^^^ t / 2 ^ x : Nat) : Int) ((0 : Nat) : Int) = ((w / 2 ^ x ^^^ t / 2 ^ x : Nat) : Int) := by
    rw [shr_nat _ 0 (by omega)]; simp
  rw [h5] at h4
  rw [h4, bit_one]
  rw [Nat.testBit_xor, Nat.testBit_xor]
  have e : ∀ m : Nat, (m / 2 ^ x).testBit 0 = m.testBit x := fun m => by
    rw [Nat.testBit_zero, Nat.testBit, Nat.shiftRight_eq_div_pow, Nat.and_comm, Nat.and_one_is_mod]
    have := Nat.mod_two_eq_zero_or_one (m / 2 ^ x)
    rcases this with h | h <;> simp [h]
  rw [e, e]

theorem isT_of {n w : Nat} (hn : n ≤ 5) (hw : w < 2 ^ 2 ^ n) : isT (n : Int) (w : Int) = true := by
  simp only [isT, Bool.and_eq_true, decide_eq_true_eq, Int.toNat_natCast]
  refine ⟨⟨⟨by omega, by omega⟩, by omega⟩, ?_⟩
  rw [show ((2 : Int) ^ 2 ^ n) = ((2 ^ 2 ^ n : Nat) : Int) by simp]
  omega

/-- Whether a number is an input. -/
def isIn (a0 a1 a2 : Int) : Bool := isT a0 a1 && decide (0 ≤ a2) && decide (a2 < 2 ^ a0.toNat)

/-- The faults seen, of whatever is handed. -/
def detectedBy (a0 a1 a2 : Int) : List Int := if isIn a0 a1 a2 then seen a1.toNat a0.toNat a2.toNat a0.toNat else []

theorem isIn_nat {a0 a1 a2 : Int} (h : isIn a0 a1 a2 = true) : ∃ n w x : Nat, a0 = n ∧ a1 = w ∧ a2 = x ∧ n ≤ 5 ∧ w < 2 ^ 2 ^ n ∧ w < 4294967296 ∧ x < 2 ^ n := by
  unfold isIn at h
  simp only [Bool.and_eq_true, decide_eq_true_eq] at h
  obtain ⟨⟨ht, h0⟩, h1⟩ := h
  obtain ⟨n, w, rfl, rfl, hn, hw, hw'⟩ := isT_nat ht
  refine ⟨n, w, a2.toNat, rfl, rfl, by omega, hn, hw, hw', ?_⟩
  rw [Int.toNat_natCast, show ((2 : Int) ^ n) = ((2 ^ n : Nat) : Int) by simp] at h1
  omega

theorem detectedBy_len (a0 a1 a2 : Int) : (detectedBy a0 a1 a2).length ≤ 10 := by
  unfold detectedBy
  split
  · rename_i h
    obtain ⟨n, w, x, rfl, rfl, rfl, hn, -, -, -⟩ := isIn_nat h
    have := seen_len (w : Int).toNat (n : Int).toNat (x : Int).toNat (n : Int).toNat
    simp only [Int.toNat_natCast] at this ⊢
    omega
  · simp
end Go.Proofs.YtfdggelojmofmaaDoor
namespace Go.Proofs.YtfdggelojmofmaaDoor
open Go.Rv
set_option linter.unusedVariables false
variable {β : Type}
theorem spec_l1In_eq (N : Nat) (a b c : Int) (k : Bool → Option β) : zj1 N a b c k = k (decide (b ≤ a) && decide (a ≤ c)) := by
  unfold zj1
  by_cases h : b ≤ a
  · rw [decide_eq_true (by omega : a ≥ b)]; rfl
  · rw [decide_eq_false (by omega : ¬ a ≥ b)]; rfl
theorem impl_isBit_eq (N : Nat) (a : Int) (k : Bool → Option β) : zj67 N a k = k (decide (0 ≤ a) && decide (a ≤ 1)) := by
  unfold zj67
  by_cases h : a = 0
  · subst h; rfl
  · rw [beq_eq_false_iff_ne.2 h, cond_false]
    by_cases h1 : a = 1
    · subst h1; rfl
    · rw [beq_eq_false_iff_ne.2 h1]
      congr 1
      symm
      simp only [Bool.and_eq_false_iff, decide_eq_false_iff_not]
      omega
/-- Whether there is such a fault. -/
def isF (a0 a1 a2 a3 : Int) : Bool := isT a0 a1 && (decide (0 ≤ a2) && decide (a2 < a0)) && (decide (0 ≤ a3) && decide (a3 ≤ 1))
theorem isF_nat {a0 a1 a2 a3 : Int} (h : isF a0 a1 a2 a3 = true) : ∃ n w i b : Nat, a0 = n ∧ a1 = w ∧ a2 = i ∧ a3 = b ∧ n ≤ 5 ∧ w < 2 ^ 2 ^ n ∧ w < 4294967296 ∧ i < n ∧ b < 2 := by
  simp only [isF, Bool.and_eq_true, decide_eq_true_eq] at h
  obtain ⟨⟨ht, h0⟩, h1⟩ := h
  obtain ⟨n, w, rfl, rfl, hn, hw, hw'⟩ := isT_nat ht
  exact ⟨n, w, a2.toNat, a3.toNat, rfl, rfl, by omega, by omega, hn, hw, hw', by omega, by omega⟩
/-- The word of a table whose variable is stuck. -/
def stuckw (w n i b : Nat) : Nat := tabw (fun x => w.testBit (ys x i b)) (2 ^ n)
/-- The numbers of a set. -/
def elems (d : Nat) : Nat → List Int
  | 0 => []
  | m + 1 => addIf (d.testBit m) (elems d m) (m : Int)
theorem elems_len (d : Nat) : ∀ m, (elems d m).length ≤ m
  | 0 => by simp [elems]
  | m + 1 => by
    have h1 := elems_len d m
    have h2 := addIf_len (d.testBit m) (elems d m) (m : Int)
    show (addIf _ _ _).length ≤ _
    omega
theorem elems_more (d m : Nat) (h : d < 2 ^ m) : ∀ j, elems d (m + j) = elems d m
  | 0 => rfl
  | j + 1 => by
    show addIf (d.testBit (m + j)) (elems d (m + j)) _ = _
    rw [elems_more d m h j, Nat.testBit_lt_two_pow (Nat.lt_of_lt_of_le h (Nat.pow_le_pow_right (by decide) (by omega)))]
    rfl

theorem addIf_step (c : Bool) (l : List Int) (v : Int) (hl : l.length ≤ 1000) (r : List Int → Option β) :
    cond c (gd (decide ((l.length + (([] : List Int) ++ [v]).length) * 8 ≤ 140737488355328)) (r (l ++ (([] : List Int) ++ [v])))) (r l) = r (addIf c l v) := by
  cases c with
  | true => rw [gd_true (decide_eq_true (by simp; omega))]; rfl
  | false => rfl

def detInputs (a0 a1 a2 a3 : Int) : List Int := if isF a0 a1 a2 a3 then elems (a1.toNat ^^^ stuckw a1.toNat a0.toNat a2.toNat a3.toNat) 32 else []
theorem detInputs_len (a0 a1 a2 a3 : Int) : (detInputs a0 a1 a2 a3).length ≤ 32 := by
  unfold detInputs
  split
  · exact elems_len _ _
  · simp
theorem stuckw_lt (w n i b : Nat) : stuckw w n i b < 2 ^ 2 ^ n := tabw_lt _ _
theorem two32 {n w : Nat} (hn : n ≤ 5) (hw : w < 2 ^ 2 ^ n) : w < 4294967296 := Nat.lt_of_lt_of_le hw (Nat.pow_le_pow_right (by decide) (size_le hn) : 2 ^ 2 ^ n ≤ 2 ^ 32)

/-- Whether a set shows a fault that can be shown. -/
def blind (w n s i b : Nat) : Bool := w ^^^ stuckw w n i b != 0 && (w ^^^ stuckw w n i b) &&& s == 0
def blinds (w n s i : Nat) : Bool := blind w n s i 0 || blind w n s i 1
/-- Whether a set shows all faults that can be shown, from a variable on. -/
def shows (w n s : Nat) : Nat → Nat → Bool
  | _, 0 => true
  | i, c + 1 => !blinds w n s i && shows w n s (i + 1) c

theorem blind_step (w n s i b : Nat) (hd : w ^^^ stuckw w n i b < 9223372036854775808) (hs : s < 9223372036854775808) (p q : Option β) :
    cond ((((w ^^^ stuckw w n i b : Nat) : Int)) != 0) (cond (bits .and .i64 ((w ^^^ stuckw w n i b : Nat) : Int) (s : Int) == 0) p q) q = cond (blind w n s i b) p q := by
  unfold blind
  rw [bAnd _ _ hd hs]
  have e : ∀ m : Nat, ((m : Int) != 0) = (m != 0) := fun m => by cases m <;> rfl
  have e2 : ∀ m : Nat, ((m : Int) == 0) = (m == 0) := fun m => by cases m <;> rfl
  rw [e, e2]
  cases (w ^^^ stuckw w n i b != 0) <;> rfl

/-- A set with more numbers. -/
def addAll (s : Nat) (l : List Int) : Nat := l.foldl (fun s x => s ||| 2 ^ x.toNat) s

theorem addAll_lt (P : Int → Bool) (hP : ∀ x, P x = true → 0 ≤ x ∧ x < 32) : ∀ (l : List Int) (s : Nat), s < 4294967296 → l.all P = true → addAll s l < 4294967296
  | [], s, hs, _ => hs
  | x :: l, s, hs, h => by
    simp only [List.all_cons, Bool.and_eq_true] at h
    have hx := hP x h.1
    exact addAll_lt P hP l _ (Nat.or_lt_two_pow (n := 32) hs (Nat.pow_lt_pow_right (by decide) (by omega))) h.2

theorem isIn_lt {a0 a1 a2 : Int} (h : isIn a0 a1 a2 = true) : 0 ≤ a2 ∧ a2 < 32 := by
  obtain ⟨n, w, x, rfl, rfl, rfl, hn, hw, -, hx⟩ := isIn_nat h
  have := size_le hn
  omega

theorem slices_ContainsFunc_eq (N : Nat) (l : List Int) (hl : l.length ≤ 1048576) (hN : 1048576 < N) (f : Int → (Bool → Option β) → Option β) (p : Int → Bool) (hf : ∀ x k, f x k = k (p x)) (k : Bool → Option β) :
    zj74 N l f k = k (l.any p) := by
  unfold zj74 zj73
  have key : ∀ (F i : Nat), l.length - i < F → i ≤ l.length →
      zj72 N f F l (l.length : Int) (i : Int) (fun e => k (decide (e ≥ 0))) (k (decide ((-1 : Int) ≥ 0))) = k ((l.drop i).any p) := by
    intro F
    induction F with
    | zero => intro i h; omega
    | succ F ih =>
      intro i hF hi
      simp only [zj72, zj71]
      by_cases hlt : i < l.length
      · rw [decide_eq_true (by omega : (i : Int) < (l.length : Int)), decide_eq_true (by omega : (0 : Int) ≤ (i : Int)), rd_nat 0 l i hlt, List.drop_eq_getElem_cons hlt, hf, w64_succ i (by omega)]
        simp only [cond_true, gd_true rfl, List.any_cons]
        cases hp : p l[i] with
        | true => simp
        | false =>
          simp only [cond_false, Bool.false_or]
          exact ih (i + 1) (by omega) (by omega)
      · have : i = l.length := by omega
        subst this
        rw [decide_eq_false (by omega : ¬ (l.length : Int) < (l.length : Int))]
        simp
  have := key N 0 (by omega) (Nat.zero_le _)
  simpa using this

/-- Whether a list is a test set. -/
def testSet (a0 a1 : Int) (l : List Int) : Bool := l.all (isIn a0 a1) && (isT a0 a1 && shows a1.toNat a0.toNat (addAll 0 l) 0 a0.toNat)
end Go.Proofs.YtfdggelojmofmaaDoor
namespace Go.Proofs.YtfdggelojmofmaaDoor
open Go.Rv
set_option linter.unusedVariables false
variable {β : Type}
/-- The least of a bound and of some values. -/
structure IsMin (b0 : Nat) (S : Nat → Prop) (b : Nat) : Prop where
  le : b ≤ b0
  all : ∀ v, S v → b ≤ v
  one : b = b0 ∨ S b
theorem isMin_le {b0 b c : Nat} {S : Nat → Prop} (h : IsMin b0 S b) (k : IsMin b0 S c) : b ≤ c := by
  rcases k.one with e | e
  · have := h.le; omega
  · exact h.all _ e
theorem isMin_unique {b0 b c : Nat} {S : Nat → Prop} (h : IsMin b0 S b) (k : IsMin b0 S c) : b = c := Nat.le_antisymm (isMin_le h k) (isMin_le k h)
theorem isMin_add {b0 b : Nat} {S : Nat → Prop} (h : IsMin b0 S b) (u : Nat) : IsMin b0 (fun v => S v ∨ v = u) (min b u) where
  le := by have := h.le; omega
  all := by
    rintro v (hv | hv)
    · have := h.all v hv; omega
    · omega
  one := by
    by_cases e : b ≤ u
    · rw [Nat.min_eq_left e]
      exact h.one.imp id .inl
    · rw [Nat.min_eq_right (by omega)]
      exact .inr (.inr rfl)
theorem isMin_congr {b0 b : Nat} {S T : Nat → Prop} (h : IsMin b0 S b) (e : ∀ v, S v ↔ T v) : IsMin b0 T b := ⟨h.le, fun v hv => h.all v ((e v).2 hv), h.one.imp id (e b).1⟩
/-- The least of a bound that is a least itself. -/
theorem isMin_join {b0 b c : Nat} {S T : Nat → Prop} (h : IsMin b0 S b) (k : IsMin b T c) : IsMin b0 (fun v => S v ∨ T v) c where
  le := by have := h.le; have := k.le; omega
  all := by
    rintro v (hv | hv)
    · have := h.all v hv; have := k.le; omega
    · exact k.all v hv
  one := by
    rcases k.one with e | e
    · rw [e]; exact h.one.imp id .inl
    · exact .inr (.inr e)

/-- The least of some numbers, of those that are taken. -/
def qmin (B : Nat) (free : Nat → Bool) (val : Nat → Nat) : Nat → Nat
  | 0 => B
  | i + 1 => if free i then min (qmin B free val i) (val i) else qmin B free val i
theorem qmin_isMin (B : Nat) (free : Nat → Bool) (val : Nat → Nat) : ∀ n, IsMin B (fun v => ∃ i, i < n ∧ free i = true ∧ v = val i) (qmin B free val n)
  | 0 => ⟨Nat.le_refl _, fun v ⟨i, h, _⟩ => by omega, .inl rfl⟩
  | n + 1 => by
    have ih := qmin_isMin B free val n
    simp only [qmin]
    cases hf : free n with
    | true =>
      rw [if_pos rfl]
      refine isMin_congr (isMin_add ih (val n)) fun v => ⟨?_, ?_⟩
      · rintro (⟨i, h1, h2⟩ | h)
        · exact ⟨i, by omega, h2⟩
        · exact ⟨n, by omega, hf, h⟩
      · rintro ⟨i, h1, h2, h3⟩
        by_cases e : i = n
        · subst e; exact .inr h3
        · exact .inl ⟨i, by omega, h2, h3⟩
    | false =>
      rw [if_neg (by decide)]
      refine isMin_congr ih fun v => ⟨fun ⟨i, h1, h2⟩ => ⟨i, by omega, h2⟩, ?_⟩
      rintro ⟨i, h1, h2, h3⟩
      by_cases e : i = n
      · subst e; rw [hf] at h2; cases h2
      · exact ⟨i, by omega, h2, h3⟩
theorem qmin_congr {B C : Nat} (hB : B = C) {free : Nat → Bool} {val val' : Nat → Nat} : ∀ {n : Nat}, (∀ i, i < n → free i = true → val i = val' i) → qmin B free val n = qmin C free val' n
  | 0, _ => hB
  | n + 1, h => by
    simp only [qmin]
    rw [qmin_congr hB fun i hi hf => h i (by omega) hf]
    cases hf : free n with
    | true => rw [h n (by omega) hf]
    | false => rfl

/-! parts of a set -/
def sub (A x : Nat) : Bool := x != 0 && (x != A && (x &&& A == x))
theorem sub_lt : ∀ A, A < 16 → ∀ x, x < 16 → sub A x = true → x < A ∧ 0 < x ∧ A - x < A ∧ 0 < A - x ∧ sub A (A - x) = true ∧ A - (A - x) = x := by decide +kernel
theorem sub_le {A x : Nat} (h : sub A x = true) : x ≤ A := by
  simp only [sub, Bool.and_eq_true, bne_iff_ne, beq_iff_eq] at h
  rw [← h.2.2]
  exact Nat.and_le_right
def lg (A : Nat) : Nat := [0, 0, 0, 1, 0, 1, 1, 2, 0, 1, 1, 2, 1, 2, 2, 2].getD A 0
theorem lg_le : ∀ A, A < 16 → lg A ≤ 2 := by decide +kernel
theorem lg_split : ∀ A, A < 16 → lg A ≠ 0 → ∃ x, x < 16 ∧ sub A x = true ∧ lg x < lg A ∧ lg (A - x) < lg A := by decide +kernel
theorem lg_zero1 : ∀ A, A < 16 → ∀ r, r < 4 → ∀ s, s < 4 → (lg A == 0 && (A.testBit r && A.testBit s)) = true → r = s := by decide +kernel
theorem lg_zero (A : Nat) (hA : A < 16) (r : Nat) (hr : r < 4) (s : Nat) (hs : s < 4) (h0 : lg A = 0) (h1 : A.testBit r = true) (h2 : A.testBit s = true) : r = s :=
  lg_zero1 A hA r hr s hs (by rw [h0, h1, h2]; rfl)

/-! the least number of bits -/
def nd (mx : Nat → Nat → Bool) : Nat → Nat → Nat → Nat
  | 0, _, _ => 0
  | f + 1, A, B => if mx A B then qmin (qmin 4 (sub A) (fun x => 1 + max (nd mx f (A - x) B) (nd mx f x B)) 16) (sub B) (fun y => 1 + max (nd mx f A (B - y)) (nd mx f A y)) 16 else 0
def need (mx : Nat → Nat → Bool) (A B : Nat) : Nat := nd mx (A + B + 1) A B
def rowV (mx : Nat → Nat → Bool) (A B x : Nat) : Nat := 1 + max (need mx (A - x) B) (need mx x B)
def colV (mx : Nat → Nat → Bool) (A B y : Nat) : Nat := 1 + max (need mx A (B - y)) (need mx A y)
theorem nd_fuel (mx : Nat → Nat → Bool) : ∀ f A B, A < 16 → B < 16 → A + B < f → nd mx f A B = need mx A B
  | 0, A, B, _, _, h => by omega
  | f + 1, A, B, hA, hB, h => by
    simp only [need, nd]
    cases hx : mx A B with
    | false => rfl
    | true =>
      rw [if_pos rfl, if_pos rfl]
      refine qmin_congr (qmin_congr rfl fun x hx hs => ?_) fun y hy hs => ?_
      · have := sub_lt A hA x hx hs
        rw [nd_fuel mx f (A - x) B (by omega) hB (by omega), nd_fuel mx f x B hx hB (by omega), nd_fuel mx (A + B) (A - x) B (by omega) hB (by omega), nd_fuel mx (A + B) x B hx hB (by omega)]
      · have := sub_lt B hB y hy hs
        rw [nd_fuel mx f A (B - y) hA (by omega) (by omega), nd_fuel mx f A y hA hy (by omega), nd_fuel mx (A + B) A (B - y) hA (by omega) (by omega), nd_fuel mx (A + B) A y hA hy (by omega)]
theorem need_eq (mx : Nat → Nat → Bool) (A B : Nat) (hA : A < 16) (hB : B < 16) : need mx A B = if mx A B then qmin (qmin 4 (sub A) (rowV mx A B) 16) (sub B) (colV mx A B) 16 else 0 := by
  have : need mx A B = nd mx (A + B + 1) A B := rfl
  rw [this]
  simp only [nd]
  cases hx : mx A B with
  | false => rfl
  | true =>
    rw [if_pos rfl, if_pos rfl]
    refine qmin_congr (qmin_congr rfl fun x hx hs => ?_) fun y hy hs => ?_
    · have := sub_lt A hA x hx hs
      rw [nd_fuel mx _ (A - x) B (by omega) hB (by omega), nd_fuel mx _ x B hx hB (by omega)]
      rfl
    · have := sub_lt B hB y hy hs
      rw [nd_fuel mx _ A (B - y) hA (by omega) (by omega), nd_fuel mx _ A y hA hy (by omega)]
      rfl

/-- The values of the ways to part rows, or columns. -/
def rowS (mx : Nat → Nat → Bool) (A B v : Nat) : Prop := ∃ x, x < 16 ∧ sub A x = true ∧ v = rowV mx A B x
def colS (mx : Nat → Nat → Bool) (A B v : Nat) : Prop := ∃ y, y < 16 ∧ sub B y = true ∧ v = colV mx A B y
theorem need_isMin {mx : Nat → Nat → Bool} {A B : Nat} (hA : A < 16) (hB : B < 16) (hx : mx A B = true) : IsMin 4 (fun v => rowS mx A B v ∨ colS mx A B v) (need mx A B) := by
  rw [need_eq mx A B hA hB, if_pos hx]
  exact isMin_join (qmin_isMin 4 (sub A) (rowV mx A B) 16) (qmin_isMin _ (sub B) (colV mx A B) 16)

/-- Nothing is mixed of one row and one column. -/
def Single (mx : Nat → Nat → Bool) : Prop := ∀ A B, A < 16 → B < 16 → lg A = 0 → lg B = 0 → mx A B = false
theorem need_le {mx : Nat → Nat → Bool} (hmx : Single mx) : ∀ s A B, A + B ≤ s → A < 16 → B < 16 → need mx A B ≤ lg A + lg B := by
  intro s
  induction s with
  | zero =>
    intro A B h hA hB
    rw [show A = 0 by omega, show B = 0 by omega] at *
    rw [need_eq mx 0 0 hA hB, hmx 0 0 hA hB rfl rfl, if_neg (by decide)]
    exact Nat.zero_le _
  | succ s ih =>
    intro A B h hA hB
    cases hx : mx A B with
    | false => rw [need_eq mx A B hA hB, hx, if_neg (by decide)]; exact Nat.zero_le _
    | true =>
      have hm := need_isMin hA hB hx
      by_cases h0 : lg A = 0
      · by_cases h1 : lg B = 0
        · rw [hmx A B hA hB h0 h1] at hx; cases hx
        · obtain ⟨y, hy, hs, hl, hr⟩ := lg_split B hB h1
          have hlt := sub_lt B hB y hy hs
          have h2 := hm.all _ (.inr ⟨y, hy, hs, rfl⟩)
          have h3 := ih A (B - y) (by omega) hA (by omega)
          have h4 := ih A y (by omega) hA hy
          unfold colV at h2
          omega
      · obtain ⟨x, hx', hs, hl, hr⟩ := lg_split A hA h0
        have hlt := sub_lt A hA x hx' hs
        have h2 := hm.all _ (.inl ⟨x, hx', hs, rfl⟩)
        have h3 := ih (A - x) B (by omega) (by omega) hB
        have h4 := ih x B (by omega) hx' hB
        unfold rowV at h2
        omega
theorem need_le4 {mx : Nat → Nat → Bool} (hmx : Single mx) (A B : Nat) (hA : A < 16) (hB : B < 16) : need mx A B ≤ 4 := by
  have h1 := need_le hmx (A + B) A B (Nat.le_refl _) hA hB
  have h2 := lg_le A hA
  have h3 := lg_le B hB
  omega
theorem need_some {mx : Nat → Nat → Bool} (hmx : Single mx) {A B : Nat} (hA : A < 16) (hB : B < 16) (hx : mx A B = true) : rowS mx A B (need mx A B) ∨ colS mx A B (need mx A B) := by
  have hm := need_isMin hA hB hx
  have key : ∃ v, v ≤ 4 ∧ (rowS mx A B v ∨ colS mx A B v) := by
    by_cases h0 : lg A = 0
    · by_cases h1 : lg B = 0
      · rw [hmx A B hA hB h0 h1] at hx; cases hx
      · obtain ⟨y, hy, hs, hl, hr⟩ := lg_split B hB h1
        have hlt := sub_lt B hB y hy hs
        have h3 := need_le hmx _ A (B - y) (Nat.le_refl _) hA (by omega)
        have h4 := need_le hmx _ A y (Nat.le_refl _) hA hy
        have h5 := lg_le A hA
        have h6 := lg_le B hB
        exact ⟨colV mx A B y, by unfold colV; omega, .inr ⟨y, hy, hs, rfl⟩⟩
    · obtain ⟨x, hx', hs, hl, hr⟩ := lg_split A hA h0
      have hlt := sub_lt A hA x hx' hs
      have h3 := need_le hmx _ (A - x) B (Nat.le_refl _) (by omega) hB
      have h4 := need_le hmx _ x B (Nat.le_refl _) hx' hB
      have h5 := lg_le A hA
      have h6 := lg_le B hB
      exact ⟨rowV mx A B x, by unfold rowV; omega, .inl ⟨x, hx', hs, rfl⟩⟩
  obtain ⟨v, hv, hS⟩ := key
  rcases hm.one with e | e
  · have := hm.all v hS
    have : v = need mx A B := by omega
    rw [← this]
    exact hS
  · exact e
theorem need_pos {mx : Nat → Nat → Bool} {A B : Nat} (hA : A < 16) (hB : B < 16) (hx : mx A B = true) : 0 < need mx A B := by
  rcases (need_isMin hA hB hx).one with e | ⟨x, _, _, e⟩ | ⟨x, _, _, e⟩
  · omega
  · unfold rowV at e; omega
  · unfold colV at e; omega
/-- The least with a bound. -/
theorem least_eq {mx : Nat → Nat → Bool} (hmx : Single mx) {A B : Nat} (hA : A < 16) (hB : B < 16) (hx : mx A B = true) (b : Nat) {c : Nat}
    (h : IsMin b (fun v => rowS mx A B v ∨ colS mx A B v) c) : c = min (need mx A B) b := by
  have h1 := need_some hmx hA hB hx
  have h2 := h.all _ h1
  have h3 := h.le
  rcases h.one with e | e
  · omega
  · have := (need_isMin hA hB hx).all _ e
    omega

/-! the protocol's text -/
def hexs : ByteArray := strOf [48, 49, 50, 51, 52, 53, 54, 55, 56, 57, 97, 98, 99, 100, 101, 102]
def node (c : Int) (x : Nat) : ByteArray := strOf [c] ++ hexs.extract x (x + 1)
/-- The first from i on. -/
def ff (p : Nat → Bool) : Nat → Nat → Option Nat
  | 0, _ => none
  | d + 1, i => if p i then some i else ff p d (i + 1)
theorem ff_none (p : Nat → Bool) : ∀ d i, (∀ j, i ≤ j → j < i + d → p j = false) → ff p d i = none
  | 0, _, _ => rfl
  | d + 1, i, h => by
    simp only [ff]
    rw [h i (by omega) (by omega), if_neg (by decide), ff_none p d (i + 1) fun j h1 h2 => h j (by omega) (by omega)]
theorem ff_some (p : Nat → Bool) : ∀ d i x, ff p d i = some x → p x = true ∧ x < i + d
  | 0, _, _, h => by cases h
  | d + 1, i, x, h => by
    simp only [ff] at h
    cases hp : p i with
    | true => rw [hp, if_pos rfl] at h; cases h; exact ⟨hp, by omega⟩
    | false =>
      rw [hp, if_neg (by decide)] at h
      have := ff_some p d (i + 1) x h
      exact ⟨this.1, by omega⟩
def rowP (mx : Nat → Nat → Bool) (A B x : Nat) : Bool := sub A x && (decide (need mx (A - x) B < need mx A B) && decide (need mx x B < need mx A B))
def colP (mx : Nat → Nat → Bool) (A B y : Nat) : Bool := sub B y && (decide (need mx A (B - y) < need mx A B) && decide (need mx A y < need mx A B))
def bs (mx : Nat → Nat → Bool) (vl : Nat → Nat → Bool) : Nat → Nat → Nat → ByteArray
  | 0, _, _ => ByteArray.empty
  | f + 1, A, B => if mx A B then match ff (rowP mx A B) 16 0 with
      | some x => (node 65 x ++ bs mx vl f (A - x) B) ++ bs mx vl f x B
      | none => match ff (colP mx A B) 16 0 with
        | some y => (node 66 y ++ bs mx vl f A (B - y)) ++ bs mx vl f A y
        | none => ByteArray.empty
    else strOf [if vl A B then 49 else 48]
theorem size_node : ∀ x, x < 16 → (node 65 x).size = 2 ∧ (node 66 x).size = 2 := by decide +kernel
theorem size_ap (a b : ByteArray) : (a ++ b).size = a.size + b.size := ByteArray.size_append
theorem bs_size (mx vl : Nat → Nat → Bool) : ∀ f A B, A < 16 → B < 16 → (bs mx vl f A B).size + 2 ≤ 3 * 2 ^ (A + B)
  | 0, A, B, _, _ => by
    have := Nat.two_pow_pos (A + B)
    have e : (bs mx vl 0 A B).size = 0 := rfl
    omega
  | f + 1, A, B, hA, hB => by
    have hpos := Nat.two_pow_pos (A + B)
    have half : ∀ C D, C + D < A + B → 2 * 2 ^ (C + D) ≤ 2 ^ (A + B) := fun C D h => by
      have : 2 ^ (C + D + 1) ≤ 2 ^ (A + B) := Nat.pow_le_pow_right (by decide) h
      rw [Nat.pow_succ] at this
      omega
    simp only [bs]
    cases hx : mx A B with
    | false =>
      rw [if_neg (by decide)]
      have : (strOf [if vl A B then 49 else 48]).size = 1 := by cases vl A B <;> rfl
      omega
    | true =>
      rw [if_pos rfl]
      cases h1 : ff (rowP mx A B) 16 0 with
      | some x =>
        have hp := ff_some _ _ _ _ h1
        have hs : sub A x = true := by
          have := hp.1
          simp only [rowP, Bool.and_eq_true] at this
          exact this.1
        have hlt := sub_lt A hA x (by omega) hs
        have i1 := bs_size mx vl f (A - x) B (by omega) hB
        have i2 := bs_size mx vl f x B (by omega) hB
        have e1 := half (A - x) B (by omega)
        have e2 := half x B (by omega)
        have e3 := (size_node x (by omega)).1
        simp only [size_ap]
        omega
      | none =>
        cases h2 : ff (colP mx A B) 16 0 with
        | some y =>
          have hp := ff_some _ _ _ _ h2
          have hs : sub B y = true := by
            have := hp.1
            simp only [colP, Bool.and_eq_true] at this
            exact this.1
          have hlt := sub_lt B hB y (by omega) hs
          have i1 := bs_size mx vl f A (B - y) hA (by omega)
          have i2 := bs_size mx vl f A y hA (by omega)
          have e1 := half A (B - y) (by omega)
          have e2 := half A y (by omega)
          have e3 := (size_node y (by omega)).2
          simp only [size_ap]
          omega
        | none =>
          have e : ByteArray.empty.size = 0 := rfl
          simp only [e]
          omega
theorem bs_small (mx vl : Nat → Nat → Bool) (f A B : Nat) (hA : A < 16) (hB : B < 16) : (bs mx vl f A B).size ≤ 4000000000 := by
  have h1 := bs_size mx vl f A B hA hB
  have h2 : 2 ^ (A + B) ≤ 2 ^ 30 := Nat.pow_le_pow_right (by decide) (by omega)
  have h3 : (2 : Nat) ^ 30 = 1073741824 := by decide
  omega
end Go.Proofs.YtfdggelojmofmaaDoor
namespace Go.Proofs.YtfdggelojmofmaaDoor
open Go.Rv
set_option linter.unusedVariables false
variable {β : Type}
theorem bit_zero (b : Bool) : (((if b then 1 else 0 : Nat) : Int) == 0) = !b := by cases b <;> rfl
/-- What is known of a value: whether a 0 was seen, and a 1. -/
def enc (f t : Bool) : Int := cond f (cond t 2 0) (cond t 1 (-1))
def encI (f t : Bool) : Int := cond f (cond t (-1) 0) (cond t 1 (-1))

/-- Whether one of the columns from j on holds a value. -/
def hcr (B row : Nat) (v : Bool) : Nat → Nat → Bool
  | 0, _ => false
  | d + 1, j => (B.testBit j && (row.testBit j == v)) || hcr B row v d (j + 1)
def hrr (A B : Nat) (rw_ : Nat → Nat) (v : Bool) : Nat → Nat → Bool
  | 0, _ => false
  | d + 1, i => (A.testBit i && hcr B (rw_ i) v 4 0) || hrr A B rw_ v d (i + 1)
/-- Whether one of the inputs from x on holds a value. -/
def hx (w k A B : Nat) (v : Bool) : Nat → Nat → Bool
  | 0, _ => false
  | d + 1, x => (A.testBit (x % 2 ^ k) && (B.testBit (x / 2 ^ k) && (w.testBit x == v))) || hx w k A B v d (x + 1)
theorem hcr_iff (B row : Nat) (v : Bool) : ∀ d j, hcr B row v d j = true ↔ ∃ c, j ≤ c ∧ c < j + d ∧ B.testBit c = true ∧ row.testBit c = v
  | 0, j => by
    constructor
    · intro h; cases h
    · rintro ⟨c, h1, h2, _⟩; omega
  | d + 1, j => by
    simp only [hcr, Bool.or_eq_true, Bool.and_eq_true, beq_iff_eq, hcr_iff B row v d (j + 1)]
    constructor
    · rintro (h | ⟨c, h1, h2, h3⟩)
      · exact ⟨j, by omega, by omega, h⟩
      · exact ⟨c, by omega, by omega, h3⟩
    · rintro ⟨c, h1, h2, h3⟩
      by_cases e : c = j
      · subst e; exact .inl h3
      · exact .inr ⟨c, by omega, by omega, h3⟩
theorem hrr_iff (A B : Nat) (rw_ : Nat → Nat) (v : Bool) : ∀ d i, hrr A B rw_ v d i = true ↔ ∃ r, i ≤ r ∧ r < i + d ∧ A.testBit r = true ∧ hcr B (rw_ r) v 4 0 = true
  | 0, j => by
    constructor
    · intro h; cases h
    · rintro ⟨c, h1, h2, _⟩; omega
  | d + 1, j => by
    simp only [hrr, Bool.or_eq_true, Bool.and_eq_true, hrr_iff A B rw_ v d (j + 1)]
    constructor
    · rintro (h | ⟨c, h1, h2, h3⟩)
      · exact ⟨j, by omega, by omega, h⟩
      · exact ⟨c, by omega, by omega, h3⟩
    · rintro ⟨c, h1, h2, h3⟩
      by_cases e : c = j
      · subst e; exact .inl h3
      · exact .inr ⟨c, by omega, by omega, h3⟩
theorem hx_iff (w k A B : Nat) (v : Bool) : ∀ d x, hx w k A B v d x = true ↔ ∃ y, x ≤ y ∧ y < x + d ∧ A.testBit (y % 2 ^ k) = true ∧ B.testBit (y / 2 ^ k) = true ∧ w.testBit y = v
  | 0, j => by
    constructor
    · intro h; cases h
    · rintro ⟨c, h1, h2, _⟩; omega
  | d + 1, j => by
    simp only [hx, Bool.or_eq_true, Bool.and_eq_true, beq_iff_eq, hx_iff w k A B v d (j + 1)]
    constructor
    · rintro (h | ⟨c, h1, h2, h3⟩)
      · exact ⟨j, by omega, by omega, h⟩
      · exact ⟨c, by omega, by omega, h3⟩
    · rintro ⟨c, h1, h2, h3⟩
      by_cases e : c = j
      · subst e; exact .inl h3
      · exact .inr ⟨c, by omega, by omega, h3⟩
theorem hcr_zero (B row : Nat) (v : Bool) (d j : Nat) (h : B < 2 ^ j) : hcr B row v d j = false := by
  cases hh : hcr B row v d j with
  | false => rfl
  | true =>
    obtain ⟨c, h1, _, h2, _⟩ := (hcr_iff B row v d j).1 hh
    have := Nat.testBit_lt_two_pow (Nat.lt_of_lt_of_le h (Nat.pow_le_pow_right (by decide) h1))
    rw [this] at h2
    cases h2

/-! the reference model's value -/
theorem one_inner (N : Nat) (m : List Int) (A B row i : Nat) (hB : B < 16) (hrow : row < 16) (hi : i < m.length) (hm : rd 0 m (i : Int) = (row : Int)) (k0 : Int → Option β) (k1 : List Int → Int → Int → Int → Int → Option β) :
    ∀ (d j G : Nat) (f t : Bool), j + d = 4 → d < G → (f && t) = false →
      zj37 N G m (A : Int) (B : Int) (enc f t) (i : Int) (j : Int) k0 k1 =
        cond ((f || hcr B row false d j) && (t || hcr B row true d j)) (k0 2) (k1 m (A : Int) (B : Int) (enc (f || hcr B row false d j) (t || hcr B row true d j)) (i : Int)) := by
  intro d
  induction d with
  | zero =>
    intro j G f t hj hG hft
    obtain ⟨G, rfl⟩ : ∃ H, G = H + 1 := ⟨G - 1, by omega⟩
    simp only [zj37, zj36, hcr, Bool.or_false]
    rw [hft, cond_false, gd_true (decide_eq_true (by omega : (0 : Int) ≤ (j : Int))), shr_nat B j (by omega), show j = 4 by omega, show B / 2 ^ 4 = 0 by omega]
    rfl
  | succ d ih =>
    intro j G f t hj hG hft
    obtain ⟨G, rfl⟩ : ∃ H, G = H + 1 := ⟨G - 1, by omega⟩
    simp only [zj37, zj36]
    simp only [gd_true (decide_eq_true (by omega : (0 : Int) ≤ (j : Int)))]
    by_cases hz : B < 2 ^ j
    · rw [hcr_zero B row false _ j hz, hcr_zero B row true _ j hz, Bool.or_false, Bool.or_false, hft, cond_false, shr_nat B j (by omega), Nat.div_eq_of_lt hz]
      rfl
    · have hpos : 0 < B / 2 ^ j := Nat.div_pos (by omega) (Nat.two_pow_pos j)
      rw [bit_at B j (by omega), hm, bit_at row j (by omega), shr_nat B j (by omega), decide_eq_true (by omega : ((B / 2 ^ j : Nat) : Int) > 0), cond_true, bit_zero, w64_succ j (by omega)]
      simp only [gd_true (decide_eq_true (by omega : (0 : Int) ≤ (i : Int))), gd_true (decide_eq_true (by omega : (i : Int) < (m.length : Int))), hcr]
      cases hb : B.testBit j with
      | false =>
        simp only [Bool.false_and, Bool.false_or, Bool.not_false, cond_true]
        exact ih (j + 1) G f t (by omega) (by omega) hft
      | true =>
        simp only [Bool.true_and, Bool.not_true, cond_false]
        cases hr : row.testBit j with
        | false =>
          have h1 := ih (j + 1) G true t (by omega) (by omega)
          cases t with
          | true =>
            cases f with
            | true => cases hft
            | false => simp [enc]
          | false =>
            have h1 := h1 rfl
            cases f <;> simpa [enc] using h1
        | true =>
          have h1 := ih (j + 1) G f true (by omega) (by omega)
          cases f with
          | true =>
            cases t with
            | true => cases hft
            | false => simp [enc]
          | false =>
            have h1 := h1 rfl
            cases t <;> simpa [enc] using h1
theorem one_outer (N : Nat) (hN : 64 < N) (m : List Int) (A B : Nat) (rw_ : Nat → Nat) (hA : A < 16) (hB : B < 16) (hlen : m.length ≤ 4) (hm : ∀ i, i < m.length → rd 0 m (i : Int) = (rw_ i : Int) ∧ rw_ i < 16) (k0 k1 : Int → Option β) :
    ∀ (d i G : Nat) (f t : Bool), i + d = m.length → d < G → (f && t) = false →
      zj39 N G m (A : Int) (B : Int) (enc f t) (i : Int) k0 k1 =
        cond ((f || hrr A B rw_ false d i) && (t || hrr A B rw_ true d i)) (k0 2) (k1 (enc (f || hrr A B rw_ false d i) (t || hrr A B rw_ true d i))) := by
  intro d
  induction d with
  | zero =>
    intro i G f t hi hG hft
    obtain ⟨G, rfl⟩ : ∃ H, G = H + 1 := ⟨G - 1, by omega⟩
    simp only [zj39, zj38, hrr, Bool.or_false]
    rw [hft, cond_false, decide_eq_false (by omega : ¬ (i : Int) < (m.length : Int)), cond_false]
  | succ d ih =>
    intro i G f t hi hG hft
    obtain ⟨G, rfl⟩ : ∃ H, G = H + 1 := ⟨G - 1, by omega⟩
    simp only [zj39, zj38]
    rw [decide_eq_true (by omega : (i : Int) < (m.length : Int)), cond_true, gd_true (decide_eq_true (by omega : (0 : Int) ≤ (i : Int))), bit_at A i (by omega), bit_zero]
    simp only [w64_succ i (by omega)]
    have hmi := hm i (by omega)
    have h0 := one_inner (β := β) N m A B (rw_ i) i hB hmi.2 (by omega) hmi.1 (fun e => k0 e) (fun e0 e1 e2 e3 e4 => zj39 N G e0 e1 e2 e3 (w64 (e4 + 1)) k0 k1) 4 0 N f t (by omega) (by omega) hft
    simp only [Int.natCast_zero] at h0
    cases ha : A.testBit i with
    | false =>
      simp only [hrr, ha, Bool.false_and, Bool.false_or, Bool.not_false, cond_true]
      exact ih (i + 1) G f t (by omega) (by omega) hft
    | true =>
      simp only [hrr, ha, Bool.true_and, Bool.not_true, cond_false]
      rw [h0]
      generalize hcr B (rw_ i) false 4 0 = cf
      generalize hcr B (rw_ i) true 4 0 = ct
      cases hb : (f || cf) && (t || ct) with
      | true =>
        simp only [Bool.and_eq_true, Bool.or_eq_true] at hb
        rw [cond_true]
        have e1 : (f || (cf || hrr A B rw_ false d (i + 1))) = true := by rcases hb.1 with e | e <;> simp [e]
        have e2 : (t || (ct || hrr A B rw_ true d (i + 1))) = true := by rcases hb.2 with e | e <;> simp [e]
        rw [e1, e2]
        rfl
      | false =>
        rw [cond_false, w64_succ i (by omega)]
        have h1 := ih (i + 1) G (f || cf) (t || ct) (by omega) (by omega) hb
        rw [Bool.or_assoc, Bool.or_assoc] at h1
        exact h1
theorem spec_l21One_eq (N : Nat) (hN : 64 < N) (m : List Int) (A B : Nat) (rw_ : Nat → Nat) (hA : A < 16) (hB : B < 16) (hlen : m.length ≤ 4) (hm : ∀ i, i < m.length → rd 0 m (i : Int) = (rw_ i : Int) ∧ rw_ i < 16) (k : Int → Option β) :
    zj40 N m (A : Int) (B : Int) k = k (enc (hrr A B rw_ false m.length 0) (hrr A B rw_ true m.length 0)) := by
  unfold zj40
  have h := one_outer (β := β) N hN m A B rw_ hA hB hlen hm (fun e => k e) (fun e => k e) m.length 0 N false false (by omega) (by omega) rfl
  simp only [Int.natCast_zero, Bool.false_or] at h
  refine Eq.trans h ?_
  cases hrr A B rw_ false m.length 0 <;> cases hrr A B rw_ true m.length 0 <;> rfl

/-! the value of the program -/
theorem mask_eq (x k : Nat) (hx : x < 64) (hk : k ≤ 5) : bits .and .i64 (x : Int) (w64 (shlI .i64 1 (k : Int) - 1)) = ((x % 2 ^ k : Nat) : Int) := by
  have hp := Nat.two_pow_pos k
  have hs := size_le hk
  rw [shl_one k (by omega), show ((2 ^ k : Nat) : Int) - 1 = ((2 ^ k - 1 : Nat) : Int) by omega, w64_nat _ (by omega), bAnd x _ (by omega) (by omega), Nat.and_two_pow_sub_one_eq_mod]
theorem impl_at_eq (N n w x : Nat) (hw : w < 4294967296) (k : Int → Option β) : zj63 N (n : Int) (w : Int) (x : Int) k = k ((if w.testBit x then 1 else 0 : Nat) : Int) := by
  unfold zj63
  rw [gd_true (decide_eq_true (by omega : (0 : Int) ≤ (x : Int))), bit_at w x (by omega)]
theorem value_loop (N : Nat) (n w k A B : Nat) (hn : n ≤ 5) (hk : k ≤ 5) (hw : w < 4294967296) (hA : A < 16) (hB : B < 16) (mp : Mp) (k0 k1 : Int → Int → Int → Int → Mp → Option β) :
    ∀ (d x G : Nat) (f t : Bool), x + d = 2 ^ n → d < G → (f && t) = false →
      zj101 N G (encI f t) ((2 ^ n : Nat) : Int) (x : Int) (n : Int) (w : Int) (k : Int) mp (A : Int) (B : Int) k0 k1 =
        cond ((f || hx w k A B false d x) && (t || hx w k A B true d x)) (k0 (-1) n w k mp) (k1 (encI (f || hx w k A B false d x) (t || hx w k A B true d x)) n w k mp) := by
  have hs := size_le hn
  intro d
  induction d with
  | zero =>
    intro x G f t hx' hG hft
    obtain ⟨G, rfl⟩ : ∃ H, G = H + 1 := ⟨G - 1, by omega⟩
    simp only [zj101, zj100, hx, Bool.or_false]
    rw [hft, cond_false, decide_eq_false (by omega : ¬ (x : Int) < ((2 ^ n : Nat) : Int)), cond_false]
  | succ d ih =>
    intro x G f t hx' hG hft
    obtain ⟨G, rfl⟩ : ∃ H, G = H + 1 := ⟨G - 1, by omega⟩
    simp only [zj101, zj100]
    rw [decide_eq_true (by omega : (x : Int) < ((2 ^ n : Nat) : Int)), cond_true, mask_eq x k (by omega) hk, shr_nat x k (by omega)]
    simp only [gd_true (decide_eq_true (by omega : (0 : Int) ≤ (k : Int))), gd_true (decide_eq_true (Int.natCast_nonneg (x % 2 ^ k))), gd_true (decide_eq_true (Int.natCast_nonneg (x / 2 ^ k))), bit_at A _ (by omega : A < 9223372036854775808), bit_at B _ (by omega : B < 9223372036854775808), bit_zero, impl_at_eq N n w x hw, w64_succ x (by omega), hx]
    cases ha : A.testBit (x % 2 ^ k) with
    | false =>
      simp only [Bool.false_and, Bool.false_or, Bool.not_false, cond_true]
      exact ih (x + 1) G f t (by omega) (by omega) hft
    | true =>
      cases hb : B.testBit (x / 2 ^ k) with
      | false =>
        simp only [Bool.false_and, Bool.and_false, Bool.false_or, Bool.not_false, Bool.not_true, cond_true, cond_false]
        exact ih (x + 1) G f t (by omega) (by omega) hft
      | true =>
        simp only [Bool.true_and, Bool.not_true, cond_false]
        cases hr : w.testBit x with
        | false =>
          have h1 := ih (x + 1) G true t (by omega) (by omega)
          cases t with
          | true =>
            cases f with
            | true => cases hft
            | false => simp [encI]
          | false =>
            have h1 := h1 rfl
            cases f <;> simpa [encI] using h1
        | true =>
          have h1 := ih (x + 1) G f true (by omega) (by omega)
          cases f with
          | true =>
            cases t with
            | true => cases hft
            | false => simp [encI]
          | false =>
            have h1 := h1 rfl
            cases t <;> simpa [encI] using h1
theorem impl_value_eq (N : Nat) (hN : 64 < N) (n w k A B : Nat) (hn : n ≤ 5) (hk : k ≤ 5) (hw : w < 4294967296) (hA : A < 16) (hB : B < 16) (mp : Mp) (k0 : Int → Int → Int → Int → Mp → Option β) :
    zj102 N (A : Int) (B : Int) (n : Int) (w : Int) (k : Int) mp k0 = k0 (encI (hx w k A B false (2 ^ n) 0) (hx w k A B true (2 ^ n) 0)) n w k mp := by
  have hs := size_le hn
  unfold zj102 zj60
  rw [gd_true (decide_eq_true (by omega : (0 : Int) ≤ (n : Int))), shl_one n (by omega)]
  have h := value_loop (β := β) N n w k A B hn hk hw hA hB mp (fun e0 e1 e2 e3 e4 => k0 e0 e1 e2 e3 e4) (fun e0 e1 e2 e3 e4 => k0 e0 e1 e2 e3 e4) (2 ^ n) 0 N false false (by omega) (by omega) rfl
  simp only [Int.natCast_zero, Bool.false_or] at h
  refine Eq.trans h ?_
  cases hx w k A B false (2 ^ n) 0 <;> cases hx w k A B true (2 ^ n) 0 <;> rfl

/-! the matrix -/
def mrow (w k q r : Nat) : Nat := tabw (fun c => w.testBit (r ||| c * 2 ^ k)) q
def rows (w k q a : Nat) : List Int := (List.range a).map fun r => ((mrow w k q r : Nat) : Int)
theorem rows_len (w k q a : Nat) : (rows w k q a).length = a := by simp [rows]
theorem rows_succ (w k q a : Nat) : rows w k q (a + 1) = rows w k q a ++ [((mrow w k q a : Nat) : Int)] := by simp [rows, List.range_succ]
theorem rows_rd (w k q a i : Nat) (h : i < a) : rd 0 (rows w k q a) (i : Int) = ((mrow w k q i : Nat) : Int) := by
  rw [rd_nat 0 _ i (by rw [rows_len]; exact h)]
  simp [rows]
set_option synthInstance.maxHeartbeats 1000000 in
set_option synthInstance.maxSize 2000 in
theorem small_parts : ∀ k, k ≤ 2 → ∀ j, j ≤ 2 → ∀ r, r < 2 ^ k → ∀ c, c < 2 ^ j → (r ||| c * 2 ^ k) < 2 ^ (k + j) ∧ (r ||| c * 2 ^ k) % 2 ^ k = r ∧ (r ||| c * 2 ^ k) / 2 ^ k = c := by decide +kernel
theorem small_whole : ∀ k, k ≤ 2 → ∀ j, j ≤ 2 → ∀ x, x < 2 ^ (k + j) → (x % 2 ^ k ||| x / 2 ^ k * 2 ^ k) = x ∧ x / 2 ^ k < 2 ^ j := by decide +kernel
theorem mat_inner (N : Nat) (n w k a : Nat) (hk : k ≤ 2) (hkn : k ≤ n) (hq : n - k ≤ 2) (hw : w < 4294967296) (ha : a < 2 ^ k) (out : List Int) (K : Int → Int → Int → Int → Int → List Int → Option β) :
    ∀ (d b G : Nat), b + d = 2 ^ (n - k) → d < G →
      zj4 N G (k : Int) (a : Int) (tabw (fun c => w.testBit (a ||| c * 2 ^ k)) b : Int) (b : Int) (n : Int) (w : Int) out K = K k a (mrow w k (2 ^ (n - k)) a : Int) n w out := by
  have h4 : 2 ^ (n - k) ≤ 4 := Nat.pow_le_pow_right (by decide) hq
  have h4k : 2 ^ k ≤ 4 := Nat.pow_le_pow_right (by decide) hk
  intro d
  induction d with
  | zero =>
    intro b G hb hG
    obtain ⟨G, rfl⟩ : ∃ H, G = H + 1 := ⟨G - 1, by omega⟩
    simp only [zj4, zj3]
    rw [show ((n : Int) - (k : Int)) = ((n - k : Nat) : Int) by omega, w64_nat _ (by omega), gd_true (decide_eq_true (by omega : (0 : Int) ≤ ((n - k : Nat) : Int))), shl_one _ (by omega), decide_eq_false (by omega : ¬ (b : Int) < ((2 ^ (n - k) : Nat) : Int)), cond_false, show b = 2 ^ (n - k) by omega]
    rfl
  | succ d ih =>
    intro b G hb hG
    obtain ⟨G, rfl⟩ : ∃ H, G = H + 1 := ⟨G - 1, by omega⟩
    have hsp := small_parts k hk (n - k) hq a ha b (by omega)
    have hn4 : 2 ^ (k + (n - k)) ≤ 2 ^ 4 := Nat.pow_le_pow_right (by decide) (by omega)
    have hbk : b * 2 ^ k < 64 := Nat.lt_of_le_of_lt (Nat.mul_le_mul (by omega : b ≤ 4) h4k) (by decide)
    have hlt := tabw_lt (fun c => w.testBit (a ||| c * 2 ^ k)) b
    have hb2 : 2 ^ b ≤ 2 ^ 4 := Nat.pow_le_pow_right (by decide) (by omega)
    simp only [zj4, zj3]
    rw [show ((n : Int) - (k : Int)) = ((n - k : Nat) : Int) by omega, w64_nat _ (by omega), gd_true (decide_eq_true (by omega : (0 : Int) ≤ ((n - k : Nat) : Int))), shl_one _ (by omega), decide_eq_true (by omega : (b : Int) < ((2 ^ (n - k) : Nat) : Int)), cond_true,
      gd_true (decide_eq_true (by omega : (0 : Int) ≤ (k : Int))), shl_nat b k (by omega) (by omega), bOr a _ (by omega) (by omega), gd_true (decide_eq_true (by omega : (0 : Int) ≤ ((a ||| b * 2 ^ k : Nat) : Int))), gd_true (decide_eq_true (by omega : (0 : Int) ≤ (b : Int))), bit_at w _ (by omega), w64_succ b (by omega)]
    have h1 := ih (b + 1) G (by omega) (by omega)
    have e : bits .or .i64 ((tabw (fun c => w.testBit (a ||| c * 2 ^ k)) b : Nat) : Int) (shlI .i64 ((if w.testBit (a ||| b * 2 ^ k) then 1 else 0 : Nat) : Int) (b : Int)) = ((tabw (fun c => w.testBit (a ||| c * 2 ^ k)) (b + 1) : Nat) : Int) := by
      cases hbit : w.testBit (a ||| b * 2 ^ k) with
      | true =>
        rw [if_pos rfl, show ((1 : Nat) : Int) = 1 from rfl, shl_one b (by omega), bOr _ _ (by omega) (by omega)]
        simp [tabw, hbit]
      | false =>
        rw [if_neg (by decide), shl_nat 0 b (by omega) (by omega), bOr _ _ (by omega) (by omega)]
        simp [tabw, hbit]
    rw [e]
    exact h1
theorem mat_outer (N : Nat) (hN : 64 < N) (n w k : Nat) (hk : k ≤ 2) (hkn : k ≤ n) (hq : n - k ≤ 2) (hw : w < 4294967296) (K : List Int → Option β) :
    ∀ (d a G : Nat), a + d = 2 ^ k → d < G →
      zj6 N G (k : Int) (a : Int) (n : Int) (w : Int) (rows w k (2 ^ (n - k)) a) K = K (rows w k (2 ^ (n - k)) (2 ^ k)) := by
  have h4 : 2 ^ (n - k) ≤ 4 := Nat.pow_le_pow_right (by decide) hq
  have h4k : 2 ^ k ≤ 4 := Nat.pow_le_pow_right (by decide) hk
  intro d
  induction d with
  | zero =>
    intro a G ha hG
    obtain ⟨G, rfl⟩ : ∃ H, G = H + 1 := ⟨G - 1, by omega⟩
    simp only [zj6, zj5]
    rw [gd_true (decide_eq_true (by omega : (0 : Int) ≤ (k : Int))), shl_one k (by omega), decide_eq_false (by omega : ¬ (a : Int) < ((2 ^ k : Nat) : Int)), cond_false, show a = 2 ^ k by omega]
  | succ d ih =>
    intro a G ha hG
    obtain ⟨G, rfl⟩ : ∃ H, G = H + 1 := ⟨G - 1, by omega⟩
    simp only [zj6, zj5]
    rw [gd_true (decide_eq_true (by omega : (0 : Int) ≤ (k : Int))), shl_one k (by omega), decide_eq_true (by omega : (a : Int) < ((2 ^ k : Nat) : Int)), cond_true]
    have h0 := mat_inner (β := β) N n w k a hk hkn hq hw (by omega) (rows w k (2 ^ (n - k)) a) (fun e7_0 e7_1 e7_2 e7_3 e7_4 e7_5 =>
      (gd ((decide ((e7_5.length + ((([] : List Int) ++ [e7_2])).length) * 8 ≤ 140737488355328)))
      (zj6 N G e7_0 ((w64 (e7_1 + 1))) e7_3 e7_4 ((e7_5 ++ (([] : List Int) ++ [e7_2]))) K))) (2 ^ (n - k)) 0 N (by omega) (by omega)
    simp only [tabw, Int.natCast_zero] at h0
    refine Eq.trans h0 ?_
    have hl := rows_len w k (2 ^ (n - k)) a
    rw [gd_true (decide_eq_true (by rw [hl]; simp only [List.nil_append, List.length_cons, List.length_nil]; omega)), w64_succ a (by omega), List.nil_append, ← rows_succ]
    exact ih (a + 1) G (by omega) (by omega)
theorem mrow_lt (w k q r : Nat) (hq : q ≤ 4) : mrow w k q r < 16 := Nat.lt_of_lt_of_le (tabw_lt _ _) (Nat.pow_le_pow_right (by decide) hq : 2 ^ q ≤ 2 ^ 4)

/-- Whether both values stand on a set of rows and a set of columns, and whether a 1 does. -/
def bothOn (w n k A B : Nat) : Bool := hx w k A B false (2 ^ n) 0 && hx w k A B true (2 ^ n) 0
def isOne (w n k A B : Nat) : Bool := hx w k A B true (2 ^ n) 0
theorem scan_eq (w n k A B : Nat) (hk : k ≤ 2) (hkn : k ≤ n) (hq : n - k ≤ 2) (hB : B < 2 ^ 2 ^ (n - k)) (v : Bool) : hrr A B (mrow w k (2 ^ (n - k))) v (2 ^ k) 0 = hx w k A B v (2 ^ n) 0 := by
  have h4 : 2 ^ (n - k) ≤ 4 := Nat.pow_le_pow_right (by decide) hq
  have en : k + (n - k) = n := by omega
  rw [Bool.eq_iff_iff, hrr_iff, hx_iff]
  constructor
  · rintro ⟨r, _, h1, h2, h3⟩
    obtain ⟨c, _, h4', h5, h6⟩ := (hcr_iff _ _ _ _ _).1 h3
    have hc : c < 2 ^ (n - k) := by
      by_cases hge : c < 2 ^ (n - k)
      · exact hge
      · have := Nat.testBit_lt_two_pow (Nat.lt_of_lt_of_le hB (Nat.pow_le_pow_right (by decide) (by omega : 2 ^ (n - k) ≤ c)))
        rw [this] at h5; cases h5
    have hsp := small_parts k hk (n - k) hq r (by omega) c hc
    rw [en] at hsp
    refine ⟨r ||| c * 2 ^ k, by omega, by omega, by rw [hsp.2.1]; exact h2, by rw [hsp.2.2]; exact h5, ?_⟩
    unfold mrow at h6
    rw [tabw_bit, decide_eq_true hc, Bool.true_and] at h6
    exact h6
  · rintro ⟨x, _, h1, h2, h3, h5⟩
    have hsw := small_whole k hk (n - k) hq x (by rw [en]; omega)
    refine ⟨x % 2 ^ k, by omega, by have := Nat.mod_lt x (Nat.two_pow_pos k); omega, h2, (hcr_iff _ _ _ _ _).2 ⟨x / 2 ^ k, Nat.zero_le _, by rw [Nat.zero_add]; exact Nat.lt_of_lt_of_le hsw.2 h4, h3, ?_⟩⟩
    unfold mrow
    rw [tabw_bit, decide_eq_true hsw.2, Bool.true_and]
    rw [hsw.1]
    exact h5
theorem some_bit (A k : Nat) (h0 : A ≠ 0) (h : A < 2 ^ 2 ^ k) : ∃ r, r < 2 ^ k ∧ A.testBit r = true := by
  obtain ⟨r, hr⟩ := Nat.exists_testBit_of_ne_zero h0
  refine ⟨r, ?_, hr⟩
  by_cases hge : r < 2 ^ k
  · exact hge
  · have := Nat.testBit_lt_two_pow (Nat.lt_of_lt_of_le h (Nat.pow_le_pow_right (by decide) (by omega : 2 ^ k ≤ r)))
    rw [this] at hr; cases hr
theorem some_value (w n k A B : Nat) (hk : k ≤ 2) (hkn : k ≤ n) (hq : n - k ≤ 2) (hA : A < 2 ^ 2 ^ k) (hB : B < 2 ^ 2 ^ (n - k)) (hA0 : A ≠ 0) (hB0 : B ≠ 0) : (hx w k A B false (2 ^ n) 0 || hx w k A B true (2 ^ n) 0) = true := by
  obtain ⟨r, hr, hra⟩ := some_bit A k hA0 hA
  obtain ⟨c, hc, hcb⟩ := some_bit B (n - k) hB0 hB
  have hsp := small_parts k hk (n - k) hq r hr c hc
  rw [show k + (n - k) = n by omega] at hsp
  have key : hx w k A B (w.testBit (r ||| c * 2 ^ k)) (2 ^ n) 0 = true := (hx_iff _ _ _ _ _ _ _).2 ⟨r ||| c * 2 ^ k, by omega, by omega, by rw [hsp.2.1]; exact hra, by rw [hsp.2.2]; exact hcb, rfl⟩
  cases hb : w.testBit (r ||| c * 2 ^ k) <;> rw [hb] at key <;> simp [key]
theorem mixed_single (w n k : Nat) (hk : k ≤ 2) (hkn : k ≤ n) (hq : n - k ≤ 2) : Single (bothOn w n k) := by
  intro A B hA hB h0 h1
  have h4 : 2 ^ (n - k) ≤ 4 := Nat.pow_le_pow_right (by decide) hq
  have h4k : 2 ^ k ≤ 4 := Nat.pow_le_pow_right (by decide) hk
  cases hm : bothOn w n k A B with
  | false => rfl
  | true =>
    exfalso
    unfold bothOn at hm
    simp only [Bool.and_eq_true, hx_iff] at hm
    obtain ⟨⟨x, _, hx1, hx2, hx3, hx4⟩, y, _, hy1, hy2, hy3, hy4⟩ := hm
    have ex := small_whole k hk (n - k) hq x (by rw [show k + (n - k) = n by omega]; omega)
    have ey := small_whole k hk (n - k) hq y (by rw [show k + (n - k) = n by omega]; omega)
    have mx := Nat.mod_lt x (Nat.two_pow_pos k)
    have my := Nat.mod_lt y (Nat.two_pow_pos k)
    have e1 := lg_zero A hA _ (by omega) _ (by omega) h0 hx2 hy2
    have e2 := lg_zero B hB _ (by omega) _ (by omega) h1 hx3 hy3
    have : x = y := by rw [← ex.1, ← ey.1, e1, e2]
    rw [this, hy4] at hx4
    cases hx4

/-- What the reference model and the program say of a value. -/
theorem enc_mixed (w n k A B : Nat) : decide (enc (hx w k A B false (2 ^ n) 0) (hx w k A B true (2 ^ n) 0) < 2) = !bothOn w n k A B := by
  unfold bothOn
  cases hx w k A B false (2 ^ n) 0 <;> cases hx w k A B true (2 ^ n) 0 <;> rfl
theorem encI_mixed (w n k A B : Nat) (h : (hx w k A B false (2 ^ n) 0 || hx w k A B true (2 ^ n) 0) = true) : decide (encI (hx w k A B false (2 ^ n) 0) (hx w k A B true (2 ^ n) 0) < 0) = bothOn w n k A B := by
  unfold bothOn
  revert h
  cases hx w k A B false (2 ^ n) 0 <;> cases hx w k A B true (2 ^ n) 0 <;> intro h <;> first | rfl | cases h
theorem enc_value (w n k A B : Nat) (h : (hx w k A B false (2 ^ n) 0 || hx w k A B true (2 ^ n) 0) = true) (hm : bothOn w n k A B = false) : enc (hx w k A B false (2 ^ n) 0) (hx w k A B true (2 ^ n) 0) = ((if isOne w n k A B then 1 else 0 : Nat) : Int) ∧ encI (hx w k A B false (2 ^ n) 0) (hx w k A B true (2 ^ n) 0) = ((if isOne w n k A B then 1 else 0 : Nat) : Int) := by
  unfold bothOn at hm
  unfold isOne
  revert h hm
  cases hx w k A B false (2 ^ n) 0 <;> cases hx w k A B true (2 ^ n) 0 <;> intro h hm <;> first | exact ⟨rfl, rfl⟩ | exact absurd h (by decide) | exact absurd hm (by decide)
end Go.Proofs.YtfdggelojmofmaaDoor
namespace Go.Proofs.YtfdggelojmofmaaDoor
open Go.Rv
set_option linter.unusedVariables false
variable {β : Type}
theorem mnI_nat1 (a b : Nat) : mnI (a : Int) (b : Int) = ((min a b : Nat) : Int) := by unfold mnI; split <;> omega
theorem mxI_nat1 (a b : Nat) : mxI (a : Int) (b : Int) = ((max a b : Nat) : Int) := by unfold mxI; split <;> omega

theorem next_low : ∀ A, A < 16 → ∀ x, x < 16 → x ≠ 0 → x ≤ A → (x - 1) &&& A < x ∧ ((x - 1) &&& A = 0 ∨ sub A ((x - 1) &&& A) = true) := by decide +kernel
set_option synthInstance.maxHeartbeats 1000000 in
set_option synthInstance.maxSize 2000 in
theorem next_all1 : ∀ A, A < 16 → ∀ x, x < 16 → ∀ y, y < 16 → (x &&& A == x && sub A y) = true → y < x → y ≤ (x - 1) &&& A := by decide +kernel
theorem next_all (A : Nat) (hA : A < 16) (x : Nat) (hx : x < 16) (he : x &&& A = x) (y : Nat) (hy : y < 16) (hs : sub A y = true) (hlt : y < x) : y ≤ (x - 1) &&& A :=
  next_all1 A hA x hx y hy (by rw [he, hs, Bool.and_true]; exact beq_self_eq_true x) hlt
theorem sub_and {A x : Nat} (h : sub A x = true) : x &&& A = x := by
  simp only [sub, Bool.and_eq_true, bne_iff_ne, beq_iff_eq] at h
  exact h.2.2

/-- The values of the greater halves above x. -/
def upS (A : Nat) (val : Nat → Nat) (x v : Nat) : Prop := ∃ y, x < y ∧ y < 16 ∧ sub A y = true ∧ A - y ≤ y ∧ v = val y
theorem up_step (A : Nat) (hA : A < 16) (val : Nat → Nat) (x : Nat) (hx : x < 16) (hs : sub A x = true) (v : Nat) : upS A val ((x - 1) &&& A) v ↔ upS A val x v ∨ (A - x ≤ x ∧ v = val x) := by
  have hlt := sub_lt A hA x hx hs
  have hn := next_low A hA x hx (by omega) (by omega)
  constructor
  · rintro ⟨y, h1, h2, h3, h4, h5⟩
    by_cases e : y = x
    · subst e; exact .inr ⟨h4, h5⟩
    · refine .inl ⟨y, ?_, h2, h3, h4, h5⟩
      by_cases hlt : y < x
      · have := next_all A hA x hx (sub_and hs) y h2 h3 hlt; omega
      · omega
  · rintro (⟨y, h1, h2, h3, h4, h5⟩ | ⟨h4, h5⟩)
    · exact ⟨y, by omega, h2, h3, h4, h5⟩
    · exact ⟨x, hn.1, hx, hs, h4, h5⟩
theorem up_start (A : Nat) (hA : A < 16) (val : Nat → Nat) (v : Nat) : ¬ upS A val ((A - 1) &&& A) v := by
  rintro ⟨y, h1, h2, h3, h4, h5⟩
  have hlt := sub_lt A hA y h2 h3
  have := next_all A hA A hA (Nat.and_self A) y h2 h3 hlt.1
  omega
theorem up_zero (A : Nat) (hA : A < 16) (val : Nat → Nat) (hsym : ∀ y, y < 16 → sub A y = true → val (A - y) = val y) (v : Nat) : upS A val 0 v ↔ ∃ y, y < 16 ∧ sub A y = true ∧ v = val y := by
  constructor
  · rintro ⟨y, h1, h2, h3, h4, h5⟩
    exact ⟨y, h2, h3, h5⟩
  · rintro ⟨y, h2, h3, h5⟩
    have hlt := sub_lt A hA y h2 h3
    by_cases h4 : A - y ≤ y
    · exact ⟨y, by omega, h2, h3, h4, h5⟩
    · exact ⟨A - y, by omega, by omega, hlt.2.2.2.2.1, by omega, by rw [hsym y h2 h3]; exact h5⟩
theorem isMin_skip {b0 b u : Nat} {S : Nat → Prop} (h : IsMin b0 S b) (hu : b ≤ u) : IsMin b0 (fun v => S v ∨ v = u) b := by
  have := isMin_add h u
  rwa [Nat.min_eq_left hu] at this

section
variable (N n w k : Nat) (hN : 64 < N) (hk : k ≤ 2) (hkn : k ≤ n) (hq : n - k ≤ 2)
include hN hk hkn hq
theorem one_eq (A B : Nat) (hA : A < 16) (hB : B < 2 ^ 2 ^ (n - k)) (K : Int → Option β) :
    zj40 N (rows w k (2 ^ (n - k)) (2 ^ k)) (A : Int) (B : Int) K = K (enc (hx w k A B false (2 ^ n) 0) (hx w k A B true (2 ^ n) 0)) := by
  have h4 : 2 ^ (n - k) ≤ 4 := Nat.pow_le_pow_right (by decide) hq
  have h4k : 2 ^ k ≤ 4 := Nat.pow_le_pow_right (by decide) hk
  have hB16 : B < 16 := Nat.lt_of_lt_of_le hB (Nat.pow_le_pow_right (by decide) h4 : 2 ^ 2 ^ (n - k) ≤ 2 ^ 4)
  rw [spec_l21One_eq N hN _ A B (mrow w k (2 ^ (n - k))) hA hB16 (by rw [rows_len]; omega) (fun i hi => ⟨rows_rd _ _ _ _ _ (by rwa [rows_len] at hi), mrow_lt _ _ _ _ h4⟩), rows_len, scan_eq w n k A B hk hkn hq hB, scan_eq w n k A B hk hkn hq hB]
omit hN hk hkn hq in
theorem mixed_ne (A B : Nat) (h : bothOn w n k A B = true) : A ≠ 0 ∧ B ≠ 0 := by
  unfold bothOn at h
  simp only [Bool.and_eq_true, hx_iff] at h
  obtain ⟨⟨x, _, _, h1, h2, _⟩, _⟩ := h
  constructor
  · intro e; rw [e, Nat.zero_testBit] at h1; cases h1
  · intro e; rw [e, Nat.zero_testBit] at h2; cases h2

/-- What the recursion is to answer. -/
def LeastOK (N n w k : Nat) (F s : Nat) : Prop := ∀ {β : Type} (A B b : Nat), A + B < s → A < 16 → B < 2 ^ 2 ^ (n - k) → b ≤ 100 → ∀ K : Int → Option β,
  zj46 N F (rows w k (2 ^ (n - k)) (2 ^ k)) (A : Int) (B : Int) (b : Int) K = K ((min (need (bothOn w n k) A B) (b + 1) : Nat) : Int)

omit hN hk hkn hq in
theorem row_loop (F A B : Nat) (hA : A < 16) (hB : B < 2 ^ 2 ^ (n - k)) (b : Nat) (hb : b ≤ 100) (ih : LeastOK N n w k F (A + B)) (k0 : Int → Option β) (k1 : List Int → Int → Int → Int → Option β) :
    ∀ (x G best : Nat), x < G → x < 16 → (x = 0 ∨ sub A x = true) → 2 ≤ best → IsMin (b + 1) (upS A (rowV (bothOn w n k) A B) x) best →
      zj42 N (zj46 N F) G (rows w k (2 ^ (n - k)) (2 ^ k)) (A : Int) (B : Int) (best : Int) (x : Int) k0 k1 =
        cond (qmin (b + 1) (sub A) (rowV (bothOn w n k) A B) 16 == 1) (k0 1) (k1 (rows w k (2 ^ (n - k)) (2 ^ k)) (A : Int) (B : Int) (qmin (b + 1) (sub A) (rowV (bothOn w n k) A B) 16 : Int)) := by
  intro x
  have hfull := qmin_isMin (b + 1) (sub A) (rowV (bothOn w n k) A B) 16
  have hsym : ∀ y, y < 16 → sub A y = true → rowV (bothOn w n k) A B (A - y) = rowV (bothOn w n k) A B y := fun y hy hs => by
    unfold rowV
    rw [(sub_lt A hA y hy hs).2.2.2.2.2, Nat.max_comm]
  induction x using Nat.strongRecOn with
  | ind x ihx =>
    intro G best hG hx' hs hb2 hm
    obtain ⟨G, rfl⟩ : ∃ H, G = H + 1 := ⟨G - 1, by omega⟩
    have hle := hm.le
    simp only [zj42, zj41]
    rcases hs with rfl | hs
    · rw [decide_eq_false (by omega : ¬ ((0 : Nat) : Int) > 0), cond_false]
      have e := isMin_unique (isMin_congr hm (up_zero A hA _ hsym)) hfull
      rw [← e, show (best == 1) = false by simp; omega, cond_false]
    · have hlt := sub_lt A hA x hx' hs
      have hn := next_low A hA x hx' (by omega) (by omega)
      have hup := up_step A hA (rowV (bothOn w n k) A B) x hx' hs
      have e1 : ((A : Int) - (x : Int)) = ((A - x : Nat) : Int) := by omega
      rw [decide_eq_true (by omega : (x : Int) > 0), cond_true]
      rw [show ((x : Int) - 1) = ((x - 1 : Nat) : Int) by omega, w64_nat (x - 1) (by omega), bAnd (x - 1) A (by omega) (by omega), e1, w64_nat (A - x) (by omega), show ((best : Int) - 2) = ((best - 2 : Nat) : Int) by omega, w64_nat (best - 2) (by omega)]
      by_cases hskip : x < A - x
      · rw [decide_eq_true (by omega : (x : Int) < ((A - x : Nat) : Int)), cond_true]
        refine ihx _ hn.1 G best (by omega) (by omega) hn.2 hb2 (isMin_congr hm fun v => ?_)
        rw [hup]
        constructor
        · exact .inl
        · rintro (h | h)
          · exact h
          · omega
      · rw [decide_eq_false (by omega : ¬ (x : Int) < ((A - x : Nat) : Int)), cond_false, ih x B (best - 2) (by omega) hx' hB (by omega)]
        have hadd : IsMin (b + 1) (upS A (rowV (bothOn w n k) A B) ((x - 1) &&& A)) (min best (rowV (bothOn w n k) A B x)) := isMin_congr (isMin_add hm (rowV (bothOn w n k) A B x)) fun v => by
          rw [hup]
          constructor
          · rintro (h | h)
            · exact .inl h
            · exact .inr ⟨by omega, h⟩
          · rintro (h | ⟨_, h⟩)
            · exact .inl h
            · exact .inr h
        have e2 : w64 (1 + ((min (need (bothOn w n k) x B) (best - 2 + 1) : Nat) : Int)) = ((min (1 + need (bothOn w n k) x B) best : Nat) : Int) := by
          rw [w64_id] <;> omega
        rw [e2]
        by_cases hmore : 1 + need (bothOn w n k) x B < best
        · rw [decide_eq_true (by omega : ((min (1 + need (bothOn w n k) x B) best : Nat) : Int) < (best : Int)), cond_true, ih (A - x) B (best - 2) (by omega) (by omega) hB (by omega)]
          have e3 : w64 (1 + ((min (need (bothOn w n k) (A - x) B) (best - 2 + 1) : Nat) : Int)) = ((min (1 + need (bothOn w n k) (A - x) B) best : Nat) : Int) := by
            rw [w64_id] <;> omega
          have e4 : min best (max (min (1 + need (bothOn w n k) x B) best) (min (1 + need (bothOn w n k) (A - x) B) best)) = min best (rowV (bothOn w n k) A B x) := by
            unfold rowV; omega
          rw [e3, mxI_nat1, mnI_nat1, e4]
          by_cases h1 : min best (rowV (bothOn w n k) A B x) = 1
          · have hq1 : qmin (b + 1) (sub A) (rowV (bothOn w n k) A B) 16 = 1 := by
              have hup1 : qmin (b + 1) (sub A) (rowV (bothOn w n k) A B) 16 ≤ min best (rowV (bothOn w n k) A B x) := by
                refine Nat.le_min.2 ⟨?_, hfull.all _ ⟨x, hx', hs, rfl⟩⟩
                rcases hm.one with e | ⟨y, _, hy, hsy, _, e⟩
                · rw [e]; exact hfull.le
                · exact hfull.all _ ⟨y, hy, hsy, e⟩
              rcases hfull.one with e | ⟨y, _, _, e⟩
              · omega
              · unfold rowV at e hup1 ⊢; omega
            rw [h1, hq1]
            rfl
          · rw [show (((min best (rowV (bothOn w n k) A B x) : Nat) : Int) == 1) = false by simp only [beq_eq_false_iff_ne, ne_eq]; omega, cond_false]
            refine ihx _ hn.1 G _ (by omega) (by omega) hn.2 ?_ hadd
            unfold rowV at h1 ⊢
            omega
        · have e5 : min best (rowV (bothOn w n k) A B x) = best := by unfold rowV; omega
          rw [decide_eq_false (by omega : ¬ ((min (1 + need (bothOn w n k) x B) best : Nat) : Int) < (best : Int)), cond_false, show ((best : Int) == 1) = false by simp only [beq_eq_false_iff_ne, ne_eq]; omega, cond_false]
          rw [e5] at hadd
          exact ihx _ hn.1 G best (by omega) (by omega) hn.2 hb2 hadd

omit hN hk hkn in
theorem col_loop (F A B : Nat) (hA : A < 16) (hB : B < 2 ^ 2 ^ (n - k)) (b : Nat) (hb : b ≤ 101) (ih : LeastOK N n w k F (A + B)) (k0 : Int → Option β) :
    ∀ (x G best : Nat), x < G → x < 16 → (x = 0 ∨ sub B x = true) → 1 ≤ best → IsMin b (upS B (colV (bothOn w n k) A B) x) best →
      zj44 N (zj46 N F) G (rows w k (2 ^ (n - k)) (2 ^ k)) (A : Int) (B : Int) (best : Int) (x : Int) k0 =
        k0 (qmin b (sub B) (colV (bothOn w n k) A B) 16 : Int) := by
  intro x
  have h4 : 2 ^ (n - k) ≤ 4 := Nat.pow_le_pow_right (by decide) hq
  have hB16 : B < 16 := Nat.lt_of_lt_of_le hB (Nat.pow_le_pow_right (by decide) h4 : 2 ^ 2 ^ (n - k) ≤ 2 ^ 4)
  have hfull := qmin_isMin b (sub B) (colV (bothOn w n k) A B) 16
  have hsym : ∀ y, y < 16 → sub B y = true → colV (bothOn w n k) A B (B - y) = colV (bothOn w n k) A B y := fun y hy hs => by
    unfold colV
    rw [(sub_lt B hB16 y hy hs).2.2.2.2.2, Nat.max_comm]
  induction x using Nat.strongRecOn with
  | ind x ihx =>
    intro G best hG hx' hs hb2 hm
    obtain ⟨G, rfl⟩ : ∃ H, G = H + 1 := ⟨G - 1, by omega⟩
    have hle := hm.le
    simp only [zj44, zj43]
    rcases hs with rfl | hs
    · rw [decide_eq_false (by omega : ¬ ((0 : Nat) : Int) > 0), cond_false]
      have e := isMin_unique (isMin_congr hm (up_zero B hB16 _ hsym)) hfull
      rw [← e]
    · have hlt := sub_lt B hB16 x hx' hs
      have hn := next_low B hB16 x hx' (by omega) (by omega)
      have hup := up_step B hB16 (colV (bothOn w n k) A B) x hx' hs
      have e1 : ((B : Int) - (x : Int)) = ((B - x : Nat) : Int) := by omega
      rw [decide_eq_true (by omega : (x : Int) > 0), cond_true]
      rw [show ((x : Int) - 1) = ((x - 1 : Nat) : Int) by omega, w64_nat (x - 1) (by omega), bAnd (x - 1) B (by omega) (by omega), e1, w64_nat (B - x) (by omega)]
      by_cases hskip : x < B - x
      · rw [decide_eq_true (by omega : (x : Int) < ((B - x : Nat) : Int)), cond_true]
        refine ihx _ hn.1 G best (by omega) (by omega) hn.2 hb2 (isMin_congr hm fun v => ?_)
        rw [hup]
        constructor
        · exact .inl
        · rintro (h | h)
          · exact h
          · omega
      · rw [decide_eq_false (by omega : ¬ (x : Int) < ((B - x : Nat) : Int)), cond_false]
        have hadd : IsMin b (upS B (colV (bothOn w n k) A B) ((x - 1) &&& B)) (min best (colV (bothOn w n k) A B x)) := isMin_congr (isMin_add hm (colV (bothOn w n k) A B x)) fun v => by
          rw [hup]
          constructor
          · rintro (h | h)
            · exact .inl h
            · exact .inr ⟨by omega, h⟩
          · rintro (h | ⟨_, h⟩)
            · exact .inl h
            · exact .inr h
        by_cases h1 : best = 1
        · rw [h1, show (((1 : Nat) : Int) == 1) = true from rfl, cond_true]
          rw [show min best (colV (bothOn w n k) A B x) = 1 by unfold colV; omega] at hadd
          exact ihx _ hn.1 G 1 (by omega) (by omega) hn.2 (by omega) hadd
        · rw [show ((best : Int) == 1) = false by simp only [beq_eq_false_iff_ne, ne_eq]; omega, cond_false, show ((best : Int) - 2) = ((best - 2 : Nat) : Int) by omega, w64_nat (best - 2) (by omega), ih A x (best - 2) (by omega) hA (by omega) (by omega)]
          have e2 : w64 (1 + ((min (need (bothOn w n k) A x) (best - 2 + 1) : Nat) : Int)) = ((min (1 + need (bothOn w n k) A x) best : Nat) : Int) := by
            rw [w64_id] <;> omega
          rw [e2]
          by_cases hmore : 1 + need (bothOn w n k) A x < best
          · rw [decide_eq_true (by omega : ((min (1 + need (bothOn w n k) A x) best : Nat) : Int) < (best : Int)), cond_true, ih A (B - x) (best - 2) (by omega) hA (by omega) (by omega)]
            have e3 : w64 (1 + ((min (need (bothOn w n k) A (B - x)) (best - 2 + 1) : Nat) : Int)) = ((min (1 + need (bothOn w n k) A (B - x)) best : Nat) : Int) := by
              rw [w64_id] <;> omega
            have e4 : min best (max (min (1 + need (bothOn w n k) A x) best) (min (1 + need (bothOn w n k) A (B - x)) best)) = min best (colV (bothOn w n k) A B x) := by
              unfold colV; omega
            rw [e3, mxI_nat1, mnI_nat1, e4]
            refine ihx _ hn.1 G _ (by omega) (by omega) hn.2 ?_ hadd
            unfold colV
            omega
          · have e5 : min best (colV (bothOn w n k) A B x) = best := by unfold colV; omega
            rw [decide_eq_false (by omega : ¬ ((min (1 + need (bothOn w n k) A x) best : Nat) : Int) < (best : Int)), cond_false]
            rw [e5] at hadd
            exact ihx _ hn.1 G best (by omega) (by omega) hn.2 hb2 hadd

theorem spec_least (F : Nat) : LeastOK N n w k F F := by
  have h4 : 2 ^ (n - k) ≤ 4 := Nat.pow_le_pow_right (by decide) hq
  induction F with
  | zero => intro β A B b h; omega
  | succ F ih =>
    intro β A B b hAB hA hB hb K
    have hB16 : B < 16 := Nat.lt_of_lt_of_le hB (Nat.pow_le_pow_right (by decide) h4 : 2 ^ 2 ^ (n - k) ≤ 2 ^ 4)
    have hS := mixed_single w n k hk hkn hq
    simp only [zj46, zj45]
    rw [one_eq N n w k hN hk hkn hq A B hA hB, enc_mixed]
    cases hx : bothOn w n k A B with
    | false =>
      rw [Bool.not_false, cond_true, need_eq _ A B hA hB16, hx, if_neg (by decide), Nat.zero_min]
      rfl
    | true =>
      have hpos := need_pos hA hB16 hx
      have hne := mixed_ne n w k A B hx
      rw [Bool.not_true, cond_false]
      by_cases h0 : b = 0
      · subst h0
        rw [show (((0 : Nat) : Int) == 0) = true from rfl, cond_true, show min (need (bothOn w n k) A B) (0 + 1) = 1 by omega]
        rfl
      · rw [show ((b : Int) == 0) = false by simp only [beq_eq_false_iff_ne, ne_eq]; omega, cond_false, show ((A : Int) - 1) = ((A - 1 : Nat) : Int) by omega, w64_nat (A - 1) (by omega), bAnd (A - 1) A (by omega) (by omega), w64_succ b (by omega)]
        have ihs : LeastOK N n w k F (A + B) := fun A' B' b' h => ih A' B' b' (by omega)
        have na := next_low A hA A hA hne.1 (Nat.le_refl _)
        have nb := next_low B hB16 B hB16 hne.2 (Nat.le_refl _)
        have hrow := row_loop (β := β) N n w k F A B hA hB b hb ihs (fun e8_0 => K e8_0) (fun e9_0 e9_1 e9_2 e9_3 => zj44 N (zj46 N F) N e9_0 e9_1 e9_2 e9_3 ((bits .and .i64 (w64 (e9_2 - 1)) e9_2)) (fun e12_0 => K e12_0))
          ((A - 1) &&& A) N (b + 1) (by omega) (by omega) na.2 (by omega) ⟨Nat.le_refl _, fun v hv => absurd hv (up_start A hA _ v), .inl rfl⟩
        refine Eq.trans hrow ?_
        have hj := isMin_join (qmin_isMin (b + 1) (sub A) (rowV (bothOn w n k) A B) 16) (qmin_isMin (qmin (b + 1) (sub A) (rowV (bothOn w n k) A B) 16) (sub B) (colV (bothOn w n k) A B) 16)
        have hval := least_eq hS hA hB16 hx (b + 1) hj
        have hqle : qmin (b + 1) (sub A) (rowV (bothOn w n k) A B) 16 ≤ b + 1 := (qmin_isMin (b + 1) (sub A) (rowV (bothOn w n k) A B) 16).le
        have hqpos : 1 ≤ qmin (b + 1) (sub A) (rowV (bothOn w n k) A B) 16 := by
          rcases (qmin_isMin (b + 1) (sub A) (rowV (bothOn w n k) A B) 16).one with e | ⟨y, _, _, e⟩
          · omega
          · unfold rowV at e ⊢; omega
        cases hone : qmin (b + 1) (sub A) (rowV (bothOn w n k) A B) 16 == 1 with
        | true =>
          have hone : qmin (b + 1) (sub A) (rowV (bothOn w n k) A B) 16 = 1 := by simpa using hone
          have hle := (qmin_isMin (qmin (b + 1) (sub A) (rowV (bothOn w n k) A B) 16) (sub B) (colV (bothOn w n k) A B) 16).le
          rw [cond_true, show min (need (bothOn w n k) A B) (b + 1) = 1 by omega]
          rfl
        | false =>
          rw [cond_false]
          show zj44 N (zj46 N F) N _ _ _ _ (bits .and .i64 (w64 ((B : Int) - 1)) (B : Int)) _ = _
          rw [show ((B : Int) - 1) = ((B - 1 : Nat) : Int) by omega, w64_nat (B - 1) (by omega), bAnd (B - 1) B (by omega) (by omega)]
          refine Eq.trans (col_loop (β := β) N n w k hq F A B hA hB _ (by omega) ihs _ ((B - 1) &&& B) N _ (by omega) (by omega) nb.2 hqpos ⟨Nat.le_refl _, fun v hv => absurd hv (up_start B hB16 _ v), .inl rfl⟩) ?_
          rw [hval]
end
end Go.Proofs.YtfdggelojmofmaaDoor
namespace Go.Proofs.YtfdggelojmofmaaDoor
open Go.Rv
set_option linter.unusedVariables false
variable {β : Type}
theorem gd_t (x : Option β) : gd true x = x := rfl
theorem not_in : ∀ A, A < 16 → ∀ d, d < 16 → (d ^^^ (d &&& A) == 0) = (d &&& A == d) := by decide +kernel
theorem out_of : ∀ A, A < 16 → ∀ d, d < 16 → sub A d = true → A ^^^ (A &&& d) = A - d := by decide +kernel
theorem nat_beq (a b : Nat) : ((a : Int) == (b : Int)) = (a == b) := by
  rw [Bool.eq_iff_iff, beq_iff_eq, beq_iff_eq]
  omega
theorem nat_bne0 (a : Nat) : ((a : Int) != 0) = !(a == 0) := by
  have := nat_beq a 0
  simp only [Int.natCast_zero] at this
  simp only [bne, this]
theorem parted_row (N A B d : Nat) (hA : A < 16) (hd : d < 16) (K : Int → Int → Int → Int → Bool → Option β) :
    zj99 N (A : Int) (B : Int) 65 (d : Int) K = if sub A d then K ((A - d : Nat) : Int) (B : Int) (d : Int) (B : Int) true else K (A : Int) (B : Int) (A : Int) (B : Int) false := by
  have e0 : ((65 : Int) == 66) = false := rfl
  have e1 : ((d : Int) == 0) = (d == 0) := nat_beq d 0
  have h1 := out_of A hA d hd
  simp only [zj99, zj96, zj97, zj98, beq_self_eq_true, gd_t, e0, cond_false, cond_true, e1, nat_beq, bAndNot d A (by omega) (by omega), bAndNot A d (by omega) (by omega), nat_bne0, not_in A hA d hd]
  unfold sub at h1 ⊢
  cases h2 : d == 0 <;> cases h3 : d == A <;> cases h4 : (d &&& A == d) <;> simp_all [bne]
theorem parted_col (N A B d : Nat) (hB : B < 16) (hd : d < 16) (K : Int → Int → Int → Int → Bool → Option β) :
    zj99 N (A : Int) (B : Int) 66 (d : Int) K = if sub B d then K (A : Int) ((B - d : Nat) : Int) (A : Int) (d : Int) true else K (A : Int) (B : Int) (A : Int) (B : Int) false := by
  have e0 : ((66 : Int) == 65) = false := rfl
  have e1 : ((d : Int) == 0) = (d == 0) := nat_beq d 0
  have h1 := out_of B hB d hd
  simp only [zj99, zj96, zj97, zj98, beq_self_eq_true, gd_t, e0, cond_false, cond_true, e1, nat_beq, bAndNot d B (by omega) (by omega), bAndNot B d (by omega) (by omega), nat_bne0, not_in B hB d hd]
  unfold sub at h1 ⊢
  cases h2 : d == 0 <;> cases h3 : d == B <;> cases h4 : (d &&& B == d) <;> simp_all [bne]

/-! what is remembered -/
theorem eqK_two1 (p : Int × Int) (a b : Int) : eqK ⟨true, false⟩ p a b = (p.1 == a && p.2 == b) := by simp [eqK]
theorem has_put1 (mp : Mp) (a b x c d : Int) : hasM ⟨true, false⟩ (putM ⟨true, false⟩ mp a b x) c d = ((a == c && b == d) || hasM ⟨true, false⟩ mp c d) := by
  induction mp with
  | nil => simp [putM, hasM, eqK_two1]
  | cons p l ih =>
    simp only [putM]
    cases he : eqK ⟨true, false⟩ p.1 a b with
    | true =>
      rw [cond_true]
      simp only [hasM]
      rw [eqK_two1] at he ⊢
      simp only [Bool.and_eq_true, beq_iff_eq] at he
      rw [eqK_two1, he.1, he.2]
      cases (a == c && b == d) <;> simp
    | false =>
      rw [cond_false]
      simp only [hasM, ih]
      rw [Bool.or_left_comm]
theorem get_put1 (mp : Mp) (a b x c d : Int) : getM ⟨true, false⟩ (putM ⟨true, false⟩ mp a b x) c d = if (a == c && b == d) then x else getM ⟨true, false⟩ mp c d := by
  induction mp with
  | nil =>
    simp only [putM, getM, eqK_two1]
    cases (a == c && b == d) <;> rfl
  | cons p l ih =>
    simp only [putM]
    cases he : eqK ⟨true, false⟩ p.1 a b with
    | true =>
      rw [cond_true]
      simp only [getM]
      rw [eqK_two1] at he ⊢
      simp only [Bool.and_eq_true, beq_iff_eq] at he
      rw [eqK_two1, he.1, he.2]
      cases (a == c && b == d) <;> simp
    | false =>
      rw [cond_false]
      simp only [getM, ih]
      cases hp : eqK ⟨true, false⟩ p.1 c d with
      | false => rfl
      | true =>
        rw [cond_true]
        cases hc : (a == c && b == d) with
        | false => rfl
        | true =>
          exfalso
          rw [eqK_two1] at hp he
          simp only [Bool.and_eq_true, beq_iff_eq] at hp hc
          rw [hp.1, hp.2, hc.1, hc.2] at he
          simp at he

abbrev hasN (mp : Mp) (A B : Nat) : Bool := hasM ⟨true, false⟩ mp (A : Int) (B : Int)
/-- All that a set of rows and a set of columns can be parted into is known. -/
def Parts (mp : Mp) (A B : Nat) : Prop :=
  (∀ x, x < 16 → sub A x = true → hasN mp (A - x) B = true ∧ hasN mp x B = true) ∧ (∀ y, y < 16 → sub B y = true → hasN mp A (B - y) = true ∧ hasN mp A y = true)
def SubM (mp mp' : Mp) : Prop := ∀ A B : Nat, hasN mp A B = true → hasN mp' A B = true
theorem SubM.refl (mp : Mp) : SubM mp mp := fun _ _ h => h
theorem SubM.trans {a b c : Mp} (h : SubM a b) (k : SubM b c) : SubM a c := fun A B e => k A B (h A B e)
theorem Parts.sub {mp mp' : Mp} {A B : Nat} (h : Parts mp A B) (k : SubM mp mp') : Parts mp' A B :=
  ⟨fun x hx hs => ⟨k _ _ (h.1 x hx hs).1, k _ _ (h.1 x hx hs).2⟩, fun x hx hs => ⟨k _ _ (h.2 x hx hs).1, k _ _ (h.2 x hx hs).2⟩⟩
def GoodM (mx : Nat → Nat → Bool) (mp : Mp) : Prop := ∀ A B : Nat, hasN mp A B = true → getM ⟨true, false⟩ mp (A : Int) (B : Int) = (need mx A B : Int) ∧ (mx A B = true → Parts mp A B)
theorem sub_put (mp : Mp) (A B : Nat) (x : Int) : SubM mp (putM ⟨true, false⟩ mp (A : Int) (B : Int) x) := fun C D h => by
  unfold hasN at h ⊢
  rw [has_put1, h, Bool.or_true]
theorem has_put_self (mp : Mp) (A B : Nat) (x : Int) : hasN (putM ⟨true, false⟩ mp (A : Int) (B : Int) x) A B = true := by
  unfold hasN
  rw [has_put1]
  simp
theorem GoodM.put {mx : Nat → Nat → Bool} {mp : Mp} (h : GoodM mx mp) (A B : Nat) {x : Int} (hx : x = (need mx A B : Int)) (hp : mx A B = true → Parts mp A B) : GoodM mx (putM ⟨true, false⟩ mp (A : Int) (B : Int) x) := by
  intro C D hh
  have hs := sub_put mp A B x
  unfold hasN at hh
  rw [has_put1] at hh
  rw [get_put1]
  cases he : (((A : Int) == (C : Int)) && ((B : Int) == (D : Int))) with
  | true =>
    simp only [Bool.and_eq_true, beq_iff_eq] at he
    have e1 : A = C := by omega
    have e2 : B = D := by omega
    subst e1 e2
    exact ⟨by rw [if_pos rfl, hx], fun hm => (hp hm).sub hs⟩
  | false =>
    rw [he, Bool.false_or] at hh
    have := h C D hh
    exact ⟨by rw [if_neg (by decide)]; exact this.1, fun hm => (this.2 hm).sub hs⟩

section
variable (N n w k : Nat)
/-- What the recursion is to answer, and to leave behind. -/
def NeedOK (F s : Nat) : Prop := ∀ (A B : Nat) (mp : Mp), A + B < s → A ≠ 0 → B ≠ 0 → A < 2 ^ 2 ^ k → B < 2 ^ 2 ^ (n - k) → GoodM (bothOn w n k) mp →
  ∃ mp', GoodM (bothOn w n k) mp' ∧ SubM mp mp' ∧ hasN mp' A B = true ∧ (hasN mp A B = true → mp' = mp) ∧
    ∀ {β : Type} (k0 : Int → Int → Int → Int → Mp → Option β), zj108 N F (A : Int) (B : Int) (n : Int) (w : Int) (k : Int) mp k0 = k0 (need (bothOn w n k) A B : Int) n w k mp'

/-- A way to part: the parts for 0 and 1, of each digit that is one. -/
structure Way (A B : Nat) (c : Int) (q : Nat → Bool) (zA zB oA oB : Nat → Nat) : Prop where
  part : ∀ {β : Type} (d : Nat), d < 16 → ∀ K : Int → Int → Int → Int → Bool → Option β, zj99 N (A : Int) (B : Int) c (d : Int) K = if q d then K (zA d : Int) (zB d : Int) (oA d : Int) (oB d : Int) true else K (A : Int) (B : Int) (A : Int) (B : Int) false
  zero : ∀ d, d < 16 → q d = true → zA d + zB d < A + B ∧ zA d ≠ 0 ∧ zB d ≠ 0 ∧ zA d ≤ A ∧ zB d ≤ B
  one : ∀ d, d < 16 → q d = true → oA d + oB d < A + B ∧ oA d ≠ 0 ∧ oB d ≠ 0 ∧ oA d ≤ A ∧ oB d ≤ B
theorem way_row {A B : Nat} (hA : A < 16) (hB0 : B ≠ 0) : Way N A B 65 (sub A) (fun d => A - d) (fun _ => B) (fun d => d) (fun _ => B) where
  part := fun d hd K => parted_row N A B d hA hd K
  zero := fun d hd hq => by have := sub_lt A hA d hd hq; omega
  one := fun d hd hq => by have := sub_lt A hA d hd hq; omega
theorem way_col {A B : Nat} (hB : B < 16) (hA0 : A ≠ 0) : Way N A B 66 (sub B) (fun _ => A) (fun d => B - d) (fun _ => A) (fun d => d) where
  part := fun d hd K => parted_col N A B d hB hd K
  zero := fun d hd hq => by have := sub_lt B hB d hd hq; omega
  one := fun d hd hq => by have := sub_lt B hB d hd hq; omega

theorem need_digits {A B : Nat} {c : Int} {q : Nat → Bool} {zA zB oA oB : Nat → Nat} (hS : Single (bothOn w n k)) (hW : Way N A B c q zA zB oA oB) (hA : A < 2 ^ 2 ^ k) (hB : B < 2 ^ 2 ^ (n - k)) (hA16 : A < 16) (hB16 : B < 16) (F : Nat) (ih : NeedOK N n w k F (A + B)) (b0 : Nat) (hb : b0 ≤ 4) (sz i : Int) (lst : List Int) :
    ∀ (e d G : Nat) (mp : Mp), d + e = 16 → e < G → GoodM (bothOn w n k) mp →
      ∃ mp', GoodM (bothOn w n k) mp' ∧ SubM mp mp' ∧ (∀ x, d ≤ x → x < 16 → q x = true → hasN mp' (zA x) (zB x) = true ∧ hasN mp' (oA x) (oB x) = true) ∧
        ∀ {β : Type} (K : Int → Int → Int → Int → Int → Int → Mp → Int → Int → List Int → Option β),
          zj104 N (zj108 N F) G (qmin b0 q (fun d => 1 + max (need (bothOn w n k) (zA d) (zB d)) (need (bothOn w n k) (oA d) (oB d))) d : Int) c sz i (d : Int) (n : Int) (w : Int) (k : Int) mp (A : Int) (B : Int) lst K =
            K (qmin b0 q (fun d => 1 + max (need (bothOn w n k) (zA d) (zB d)) (need (bothOn w n k) (oA d) (oB d))) 16 : Int) sz i n w k mp' A B lst := by
  intro e
  generalize hval : (fun d => 1 + max (need (bothOn w n k) (zA d) (zB d)) (need (bothOn w n k) (oA d) (oB d))) = val
  have hvi : ∀ d, 1 + max (need (bothOn w n k) (zA d) (zB d)) (need (bothOn w n k) (oA d) (oB d)) = val d := fun d => by rw [← hval]
  induction e with
  | zero =>
    intro d G mp hd hG hM
    obtain ⟨G, rfl⟩ : ∃ H, G = H + 1 := ⟨G - 1, by omega⟩
    refine ⟨mp, hM, SubM.refl mp, fun x h1 h2 => by omega, fun K => ?_⟩
    simp only [zj104, zj103]
    rw [decide_eq_false (by omega : ¬ (d : Int) < 16), cond_false, show d = 16 by omega]
  | succ e ihe =>
    intro d G mp hd hG hM
    obtain ⟨G, rfl⟩ : ∃ H, G = H + 1 := ⟨G - 1, by omega⟩
    have hlt : d < 16 := by omega
    cases hq : q d with
    | false =>
      obtain ⟨mp', hM', hsub, hkeys, he⟩ := ihe (d + 1) G mp (by omega) (by omega) hM
      refine ⟨mp', hM', hsub, fun x h1 h2 h3 => ?_, fun {β} K => ?_⟩
      · by_cases ex : x = d
        · subst ex; rw [hq] at h3; cases h3
        · exact hkeys x (by omega) h2 h3
      · simp only [zj104, zj103]
        rw [decide_eq_true (by omega : (d : Int) < 16), cond_true, hW.part d hlt, hq, if_neg (by decide), cond_false, w64_succ d (by omega)]
        have h1 := he K
        simp only [qmin, hq] at h1
        exact h1
    | true =>
      have hz := hW.zero d hlt hq
      have ho := hW.one d hlt hq
      obtain ⟨mp1, hM1, hs1, hk1, _, he1⟩ := ih (zA d) (zB d) mp hz.1 hz.2.1 hz.2.2.1 (by omega) (by omega) hM
      obtain ⟨mp2, hM2, hs2, hk2, _, he2⟩ := ih (oA d) (oB d) mp1 ho.1 ho.2.1 ho.2.2.1 (by omega) (by omega) hM1
      obtain ⟨mp', hM', hsub, hkeys, he⟩ := ihe (d + 1) G mp2 (by omega) (by omega) hM2
      have hn1 := need_le4 hS (zA d) (zB d) (by omega) (by omega)
      have hn2 := need_le4 hS (oA d) (oB d) (by omega) (by omega)
      refine ⟨mp', hM', hs1.trans (hs2.trans hsub), fun x h1 h2 h3 => ?_, fun {β} K => ?_⟩
      · by_cases ex : x = d
        · subst ex; exact ⟨hsub _ _ (hs2 _ _ hk1), hsub _ _ hk2⟩
        · exact hkeys x (by omega) h2 h3
      · simp only [zj104, zj103]
        rw [decide_eq_true (by omega : (d : Int) < 16), cond_true, hW.part d hlt, hq, if_pos rfl, cond_true, he1, he2, w64_succ d (by omega), mxI_nat1,
          show (1 : Int) + ((max (need (bothOn w n k) (zA d) (zB d)) (need (bothOn w n k) (oA d) (oB d)) : Nat) : Int) = ((1 + max (need (bothOn w n k) (zA d) (zB d)) (need (bothOn w n k) (oA d) (oB d)) : Nat) : Int) by omega, w64_nat _ (by omega), mnI_nat1, hvi]
        have h1 := he K
        simp only [qmin, hq, if_true] at h1
        exact h1

theorem impl_need (hN : 64 < N) (hk : k ≤ 2) (hkn : k ≤ n) (hq : n - k ≤ 2) (hw : w < 4294967296) (F : Nat) : NeedOK N n w k F F := by
  have h4 : 2 ^ (n - k) ≤ 4 := Nat.pow_le_pow_right (by decide) hq
  have h4k : 2 ^ k ≤ 4 := Nat.pow_le_pow_right (by decide) hk
  have hS := mixed_single w n k hk hkn hq
  induction F with
  | zero => intro A B mp h; omega
  | succ F ih =>
    intro A B mp hAB hA0 hB0 hA hB hM
    have hA16 : A < 16 := Nat.lt_of_lt_of_le hA (Nat.pow_le_pow_right (by decide) h4k : 2 ^ 2 ^ k ≤ 2 ^ 4)
    have hB16 : B < 16 := Nat.lt_of_lt_of_le hB (Nat.pow_le_pow_right (by decide) h4 : 2 ^ 2 ^ (n - k) ≤ 2 ^ 4)
    cases hh : hasN mp A B with
    | true =>
      refine ⟨mp, hM, SubM.refl mp, hh, fun _ => rfl, fun {β} k0 => ?_⟩
      simp only [zj108, zj107]
      unfold hasN at hh
      rw [hh, cond_true, (hM A B hh).1]
    | false =>
      have hsv := some_value w n k A B hk hkn hq hA hB hA0 hB0
      have hne := need_eq (bothOn w n k) A B hA16 hB16
      cases hx : bothOn w n k A B with
      | false =>
        rw [hx, if_neg (by decide)] at hne
        refine ⟨_, hM.put A B (x := 0) (by rw [hne]; rfl) (fun h => by rw [hx] at h; cases h), sub_put _ _ _ _, has_put_self _ _ _ _, fun h => absurd h (by decide), fun {β} k0 => ?_⟩
        simp only [zj108, zj107]
        unfold hasN at hh
        rw [hh, cond_false, impl_value_eq N hN n w k A B (by omega) (by omega) hw hA16 hB16, encI_mixed w n k A B hsv, hx, cond_false, hne]
        rfl
      | true =>
        rw [hx, if_pos rfl] at hne
        have ihs : NeedOK N n w k F (A + B) := fun A' B' mp' h => ih A' B' mp' (by omega)
        obtain ⟨mp1, hM1, hs1, hk1, he1⟩ := need_digits N n w k hS (way_row N (B := B) hA16 hB0) hA hB hA16 hB16 F ihs 4 (Nat.le_refl _) 2 0 [65, 66] 16 0 N mp (by omega) (by omega) hM
        obtain ⟨mp2, hM2, hs2, hk2, he2⟩ := need_digits N n w k hS (way_col N (A := A) hB16 hA0) hA hB hA16 hB16 F ihs (qmin 4 (sub A) (rowV (bothOn w n k) A B) 16) (qmin_isMin 4 (sub A) (rowV (bothOn w n k) A B) 16).le 2 1 [65, 66] 16 0 N mp1 (by omega) (by omega) hM1
        have hparts : Parts mp2 A B := ⟨fun x h1 h2 => ⟨hs2 _ _ (hk1 x (by omega) h1 h2).1, hs2 _ _ (hk1 x (by omega) h1 h2).2⟩, fun y h1 h2 => hk2 y (by omega) h1 h2⟩
        refine ⟨_, hM2.put A B (x := (need (bothOn w n k) A B : Int)) rfl (fun _ => hparts), (hs1.trans hs2).trans (sub_put _ _ _ _), has_put_self _ _ _ _, fun h => absurd h (by decide), fun {β} k0 => ?_⟩
        simp only [zj108, zj107]
        unfold hasN at hh
        rw [hh, cond_false, impl_value_eq N hN n w k A B (by omega) (by omega) hw hA16 hB16, encI_mixed w n k A B hsv, hx, cond_true]
        obtain ⟨H, hH⟩ : ∃ H, N = H + 3 := ⟨N - 3, by omega⟩
        have hloop : ∀ K : Int → Int → Int → Int → Mp → Int → Int → Option β, zj106 N (zj108 N F) (H + 3) 4 2 0 (n : Int) (w : Int) (k : Int) mp (A : Int) (B : Int) [65, 66] K = K (need (bothOn w n k) A B : Int) n w k mp2 A B := by
          intro K
          have a1 := he1 (β := β) (fun e29_0 e29_1 e29_2 e29_3 e29_4 e29_5 e29_6 e29_7 e29_8 e29_9 => zj106 N (zj108 N F) (H + 2) e29_0 e29_1 (w64 (e29_2 + 1)) e29_3 e29_4 e29_5 e29_6 e29_7 e29_8 e29_9 K)
          have a2 := he2 (β := β) (fun e29_0 e29_1 e29_2 e29_3 e29_4 e29_5 e29_6 e29_7 e29_8 e29_9 => zj106 N (zj108 N F) (H + 1) e29_0 e29_1 (w64 (e29_2 + 1)) e29_3 e29_4 e29_5 e29_6 e29_7 e29_8 e29_9 K)
          refine Eq.trans a1 ?_
          refine Eq.trans a2 ?_
          rw [hne]
          rfl
        have hl := hloop (fun e30_0 e30_1 e30_2 e30_3 e30_4 e30_5 e30_6 => k0 e30_0 e30_1 e30_2 e30_3 (putM ⟨true, false⟩ e30_4 e30_5 e30_6 e30_0))
        rw [← hH] at hl
        exact hl
end
end Go.Proofs.YtfdggelojmofmaaDoor
namespace Go.Proofs.YtfdggelojmofmaaDoor
open Go.Rv
set_option linter.unusedVariables false
variable {β : Type}
theorem hexs_bt : ∀ d : Nat, d < 16 → strOf ((([] : List Int) ++ [65]) ++ [bt hexs (d : Int)]) = node 65 d ∧ strOf ((([] : List Int) ++ [66]) ++ [bt hexs (d : Int)]) = node 66 d := by decide +kernel
theorem spec_l21Hex_eq (N x : Nat) (hx : x < 16) (K : ByteArray → Option β) : zj49 N (x : Int) K = K (hexs.extract x (x + 1)) := by
  have hs : hexs.size = 16 := by decide +kernel
  have e : zj49 N (x : Int) K = gd (decide (0 ≤ w64 ((x : Int) + 1))) (gd (decide (w64 ((x : Int) + 1) ≤ (hexs.size : Int))) (gd (decide (0 ≤ (x : Int))) (gd (decide ((x : Int) ≤ w64 ((x : Int) + 1))) (K (hexs.extract (Int.toNat (x : Int)) (Int.toNat (w64 ((x : Int) + 1)))))))) := rfl
  rw [e, w64_succ x (by omega), hs, gd_true (decide_eq_true (by omega : (0 : Int) ≤ ((x + 1 : Nat) : Int))), gd_true (decide_eq_true (by omega : ((x + 1 : Nat) : Int) ≤ ((16 : Nat) : Int))), gd_true (decide_eq_true (by omega : (0 : Int) ≤ (x : Int))), gd_true (decide_eq_true (by omega : (x : Int) ≤ ((x + 1 : Nat) : Int))), Int.toNat_natCast, Int.toNat_natCast]
theorem impl_digit (N : Nat) (b : Bool) (K : ByteArray → Option β) : zj82 N ((if b then 1 else 0 : Nat) : Int) K = K (strOf [if b then 49 else 48]) := by
  first
    | (cases b <;> rfl)
    | (have e : ∀ b : Bool, itoaB ((if b then 1 else 0 : Nat) : Int) = strOf [if b then 49 else 48] := fun b => by
         have h : Lib.itoa ((if b then 1 else 0 : Nat) : Int) = [if b then 49 else 48] := by
           cases b
           · show Lib.itoa 0 = [48]
             unfold Lib.itoa
             rw [if_neg (by decide), Lib.decDigits, dif_pos (by decide)]
             rfl
           · show Lib.itoa 1 = [49]
             unfold Lib.itoa
             rw [if_neg (by decide), Lib.decDigits, dif_pos (by decide)]
             rfl
         unfold itoaB
         rw [h]
         cases b <;> rfl
       refine Eq.trans ?_ (congrArg K (e b))
       cases b <;> rfl)
theorem spec_digit (b : Bool) (K : ByteArray → Option β) (r : Int) (h : r = ((if b then 1 else 0 : Nat) : Int)) :
    (gd ((decide (0 ≤ (w64 (r + 1))))) ((gd ((decide ((w64 (r + 1)) ≤ (((strOf [48, 49])).size : Int)))) ((gd ((decide (0 ≤ r))) ((gd ((decide (r ≤ (w64 (r + 1))))) (K ((((strOf [48, 49])).extract (Int.toNat r) (Int.toNat (w64 (r + 1))))))))))))) = K (strOf [if b then 49 else 48]) := by
  subst h
  cases b <;> rfl
theorem size_pre : ∀ x, x < 16 → (strOf [65]).size + (hexs.extract x (x + 1)).size = 2 ∧ (strOf [66]).size + (hexs.extract x (x + 1)).size = 2 := by decide +kernel

theorem ff_first (p : Nat → Bool) (h : p 0 = false) : ff p 16 0 = ff p 15 1 := by
  show (if p 0 then some 0 else ff p 15 1) = _
  rw [h, if_neg (by decide)]

section
variable (N n w k : Nat) (hN : 64 < N) (hk : k ≤ 2) (hkn : k ≤ n) (hq : n - k ≤ 2)
include hN hk hkn hq
/-! the reference model -/
/-- What the reference model's recursion is to answer. -/
def BuildOK (N n w k : Nat) (F s : Nat) : Prop := ∀ {β : Type} (A B : Nat), A + B < s → A ≠ 0 → B ≠ 0 → A < 2 ^ 2 ^ k → B < 2 ^ 2 ^ (n - k) → ∀ K : ByteArray → Option β,
  zj55 N F (rows w k (2 ^ (n - k)) (2 ^ k)) (A : Int) (B : Int) (need (bothOn w n k) A B : Int) K = K (bs (bothOn w n k) (isOne w n k) F A B)
theorem least_min (hN' : 64 < N) (A B b : Nat) (hA : A < 16) (hB : B < 2 ^ 2 ^ (n - k)) (hb : b ≤ 100) (hb0 : 1 ≤ b) (K : Int → Option β) :
    zj47 N (rows w k (2 ^ (n - k)) (2 ^ k)) (A : Int) (B : Int) (w64 ((b : Int) - 1)) K = K ((min (need (bothOn w n k) A B) b : Nat) : Int) := by
  have h4 : 2 ^ (n - k) ≤ 4 := Nat.pow_le_pow_right (by decide) hq
  have hB16 : B < 16 := Nat.lt_of_lt_of_le hB (Nat.pow_le_pow_right (by decide) h4 : 2 ^ 2 ^ (n - k) ≤ 2 ^ 4)
  rw [show ((b : Int) - 1) = ((b - 1 : Nat) : Int) by omega, w64_nat (b - 1) (by omega)]
  unfold zj47
  rw [spec_least N n w k hN hk hkn hq N A B (b - 1) (by omega) hA hB (by omega), show b - 1 + 1 = b by omega]
theorem build_rows (F A B : Nat) (hB0 : B ≠ 0) (hA : A < 2 ^ 2 ^ k) (hB : B < 2 ^ 2 ^ (n - k)) (hA16 : A < 16) (hB16 : B < 16) (hx : bothOn w n k A B = true) (ih : BuildOK N n w k F (A + B)) (k0 : ByteArray → Option β) (k1 : List Int → Int → Int → Int → Option β) :
    ∀ (d x G : Nat), x + d = 16 → d < G → 1 ≤ x →
      zj51 N (zj55 N F) G (rows w k (2 ^ (n - k)) (2 ^ k)) (A : Int) (B : Int) (need (bothOn w n k) A B : Int) (x : Int) k0 k1 =
        match ff (rowP (bothOn w n k) A B) d x with
        | some x => k0 ((node 65 x ++ bs (bothOn w n k) (isOne w n k) F (A - x) B) ++ bs (bothOn w n k) (isOne w n k) F x B)
        | none => k1 (rows w k (2 ^ (n - k)) (2 ^ k)) (A : Int) (B : Int) (need (bothOn w n k) A B : Int) := by
  have hS := mixed_single w n k hk hkn hq
  have hpos := need_pos hA16 hB16 hx
  have hle := need_le4 hS A B hA16 hB16
  intro d
  induction d with
  | zero =>
    intro x G hx' hG h1
    obtain ⟨G, rfl⟩ : ∃ H, G = H + 1 := ⟨G - 1, by omega⟩
    simp only [zj51, zj50, ff]
    rw [decide_eq_false (by omega : ¬ (x : Int) < (A : Int)), cond_false]
  | succ d ihd =>
    intro x G hx' hG h1
    obtain ⟨G, rfl⟩ : ∃ H, G = H + 1 := ⟨G - 1, by omega⟩
    simp only [zj51, zj50]
    by_cases hlt : x < A
    · rw [decide_eq_true (by omega : (x : Int) < (A : Int)), cond_true, bAnd x A (by omega) (by omega), nat_beq, show ((A : Int) - (x : Int)) = ((A - x : Nat) : Int) by omega, w64_nat (A - x) (by omega), w64_succ x (by omega)]
      have hnext := ihd (x + 1) G (by omega) (by omega) (by omega)
      cases hand : (x &&& A == x) with
      | false =>
        have hp : rowP (bothOn w n k) A B x = false := by
          unfold rowP sub
          rw [hand]
          simp
        simp only [ff, hp, cond_false]
        exact hnext
      | true =>
        have hs : sub A x = true := by
          unfold sub
          rw [hand]
          simp
          omega
        have hsl := sub_lt A hA16 x (by omega) hs
        rw [cond_true, least_min N n w k hN hk hkn hq hN x B _ (by omega) hB (by omega) hpos]
        by_cases c1 : need (bothOn w n k) x B < need (bothOn w n k) A B
        · rw [decide_eq_true (by omega : ((min (need (bothOn w n k) x B) (need (bothOn w n k) A B) : Nat) : Int) < (need (bothOn w n k) A B : Int)), cond_true, least_min N n w k hN hk hkn hq hN (A - x) B _ (by omega) hB (by omega) hpos]
          by_cases c2 : need (bothOn w n k) (A - x) B < need (bothOn w n k) A B
          · have hp : rowP (bothOn w n k) A B x = true := by
              unfold rowP
              rw [hs, decide_eq_true c1, decide_eq_true c2]
              rfl
            have s1 := bs_small (bothOn w n k) (isOne w n k) F (A - x) B (by omega) hB16
            have s2 := bs_small (bothOn w n k) (isOne w n k) F x B (by omega) hB16
            have s3 := (size_pre x (by omega)).1
            rw [decide_eq_true (by omega : ((min (need (bothOn w n k) (A - x) B) (need (bothOn w n k) A B) : Nat) : Int) < (need (bothOn w n k) A B : Int)), cond_true, spec_l21Hex_eq N x (by omega), gd_true (decide_eq_true (by omega)),
              least_min N n w k hN hk hkn hq hN (A - x) B _ (by omega) hB (by omega) hpos, show min (need (bothOn w n k) (A - x) B) (need (bothOn w n k) A B) = need (bothOn w n k) (A - x) B by omega,
              ih (A - x) B (by omega) (by omega) hB0 (by omega) hB, gd_true (decide_eq_true (by simp only [size_ap]; omega)),
              least_min N n w k hN hk hkn hq hN x B _ (by omega) hB (by omega) hpos, show min (need (bothOn w n k) x B) (need (bothOn w n k) A B) = need (bothOn w n k) x B by omega,
              ih x B (by omega) (by omega) hB0 (by omega) hB, gd_true (decide_eq_true (by simp only [size_ap]; omega))]
            simp only [ff, hp, if_true]
            rfl
          · have hp : rowP (bothOn w n k) A B x = false := by
              unfold rowP
              rw [decide_eq_false c2]
              simp
            rw [decide_eq_false (by omega : ¬ ((min (need (bothOn w n k) (A - x) B) (need (bothOn w n k) A B) : Nat) : Int) < (need (bothOn w n k) A B : Int)), cond_false]
            simp only [ff, hp]
            exact hnext
        · have hp : rowP (bothOn w n k) A B x = false := by
            unfold rowP
            rw [decide_eq_false c1]
            simp
          rw [decide_eq_false (by omega : ¬ ((min (need (bothOn w n k) x B) (need (bothOn w n k) A B) : Nat) : Int) < (need (bothOn w n k) A B : Int)), cond_false]
          simp only [ff, hp]
          exact hnext
    · rw [decide_eq_false (by omega : ¬ (x : Int) < (A : Int)), cond_false, ff_none _ _ _ fun j h1 h2 => ?_]
      cases hs : rowP (bothOn w n k) A B j with
      | false => rfl
      | true =>
        unfold rowP at hs
        simp only [Bool.and_eq_true] at hs
        have := sub_lt A hA16 j (by omega) hs.1
        omega
theorem build_cols (F A B : Nat) (hA0 : A ≠ 0) (hA : A < 2 ^ 2 ^ k) (hB : B < 2 ^ 2 ^ (n - k)) (hA16 : A < 16) (hB16 : B < 16) (hx : bothOn w n k A B = true) (ih : BuildOK N n w k F (A + B)) (k0 : ByteArray → Option β) (k1 : Option β) :
    ∀ (d x G : Nat), x + d = 16 → d < G → 1 ≤ x →
      zj53 N (zj55 N F) G (rows w k (2 ^ (n - k)) (2 ^ k)) (A : Int) (B : Int) (need (bothOn w n k) A B : Int) (x : Int) k0 k1 =
        match ff (colP (bothOn w n k) A B) d x with
        | some x => k0 ((node 66 x ++ bs (bothOn w n k) (isOne w n k) F A (B - x)) ++ bs (bothOn w n k) (isOne w n k) F A x)
        | none => k1 := by
  have hS := mixed_single w n k hk hkn hq
  have hpos := need_pos hA16 hB16 hx
  have hle := need_le4 hS A B hA16 hB16
  intro d
  induction d with
  | zero =>
    intro x G hx' hG h1
    obtain ⟨G, rfl⟩ : ∃ H, G = H + 1 := ⟨G - 1, by omega⟩
    simp only [zj53, zj52, ff]
    rw [decide_eq_false (by omega : ¬ (x : Int) < (B : Int)), cond_false]
  | succ d ihd =>
    intro x G hx' hG h1
    obtain ⟨G, rfl⟩ : ∃ H, G = H + 1 := ⟨G - 1, by omega⟩
    simp only [zj53, zj52]
    by_cases hlt : x < B
    · rw [decide_eq_true (by omega : (x : Int) < (B : Int)), cond_true, bAnd x B (by omega) (by omega), nat_beq, show ((B : Int) - (x : Int)) = ((B - x : Nat) : Int) by omega, w64_nat (B - x) (by omega), w64_succ x (by omega)]
      have hnext := ihd (x + 1) G (by omega) (by omega) (by omega)
      cases hand : (x &&& B == x) with
      | false =>
        have hp : colP (bothOn w n k) A B x = false := by
          unfold colP sub
          rw [hand]
          simp
        simp only [ff, hp, cond_false]
        exact hnext
      | true =>
        have hs : sub B x = true := by
          unfold sub
          rw [hand]
          simp
          omega
        have hsl := sub_lt B hB16 x (by omega) hs
        rw [cond_true, least_min N n w k hN hk hkn hq hN A x _ hA16 (by omega) (by omega) hpos]
        by_cases c1 : need (bothOn w n k) A x < need (bothOn w n k) A B
        · rw [decide_eq_true (by omega : ((min (need (bothOn w n k) A x) (need (bothOn w n k) A B) : Nat) : Int) < (need (bothOn w n k) A B : Int)), cond_true, least_min N n w k hN hk hkn hq hN A (B - x) _ hA16 (by omega) (by omega) hpos]
          by_cases c2 : need (bothOn w n k) A (B - x) < need (bothOn w n k) A B
          · have hp : colP (bothOn w n k) A B x = true := by
              unfold colP
              rw [hs, decide_eq_true c1, decide_eq_true c2]
              rfl
            have s1 := bs_small (bothOn w n k) (isOne w n k) F A (B - x) hA16 (by omega)
            have s2 := bs_small (bothOn w n k) (isOne w n k) F A x hA16 (by omega)
            have s3 := (size_pre x (by omega)).2
            rw [decide_eq_true (by omega : ((min (need (bothOn w n k) A (B - x)) (need (bothOn w n k) A B) : Nat) : Int) < (need (bothOn w n k) A B : Int)), cond_true, spec_l21Hex_eq N x (by omega), gd_true (decide_eq_true (by omega)),
              least_min N n w k hN hk hkn hq hN A (B - x) _ hA16 (by omega) (by omega) hpos, show min (need (bothOn w n k) A (B - x)) (need (bothOn w n k) A B) = need (bothOn w n k) A (B - x) by omega,
              ih A (B - x) (by omega) hA0 (by omega) hA (by omega), gd_true (decide_eq_true (by simp only [size_ap]; omega)),
              least_min N n w k hN hk hkn hq hN A x _ hA16 (by omega) (by omega) hpos, show min (need (bothOn w n k) A x) (need (bothOn w n k) A B) = need (bothOn w n k) A x by omega,
              ih A x (by omega) hA0 (by omega) hA (by omega), gd_true (decide_eq_true (by simp only [size_ap]; omega))]
            simp only [ff, hp, if_true]
            rfl
          · have hp : colP (bothOn w n k) A B x = false := by
              unfold colP
              rw [decide_eq_false c2]
              simp
            rw [decide_eq_false (by omega : ¬ ((min (need (bothOn w n k) A (B - x)) (need (bothOn w n k) A B) : Nat) : Int) < (need (bothOn w n k) A B : Int)), cond_false]
            simp only [ff, hp]
            exact hnext
        · have hp : colP (bothOn w n k) A B x = false := by
            unfold colP
            rw [decide_eq_false c1]
            simp
          rw [decide_eq_false (by omega : ¬ ((min (need (bothOn w n k) A x) (need (bothOn w n k) A B) : Nat) : Int) < (need (bothOn w n k) A B : Int)), cond_false]
          simp only [ff, hp]
          exact hnext
    · rw [decide_eq_false (by omega : ¬ (x : Int) < (B : Int)), cond_false, ff_none _ _ _ fun j h1 h2 => ?_]
      cases hs : colP (bothOn w n k) A B j with
      | false => rfl
      | true =>
        unfold colP at hs
        simp only [Bool.and_eq_true] at hs
        have := sub_lt B hB16 j (by omega) hs.1
        omega
theorem spec_build (F : Nat) : BuildOK N n w k F F := by
  have h4 : 2 ^ (n - k) ≤ 4 := Nat.pow_le_pow_right (by decide) hq
  have h4k : 2 ^ k ≤ 4 := Nat.pow_le_pow_right (by decide) hk
  induction F with
  | zero => intro β A B h; omega
  | succ F ih =>
    intro β A B hAB hA0 hB0 hA hB K
    have hA16 : A < 16 := Nat.lt_of_lt_of_le hA (Nat.pow_le_pow_right (by decide) h4k : 2 ^ 2 ^ k ≤ 2 ^ 4)
    have hB16 : B < 16 := Nat.lt_of_lt_of_le hB (Nat.pow_le_pow_right (by decide) h4 : 2 ^ 2 ^ (n - k) ≤ 2 ^ 4)
    have hsv := some_value w n k A B hk hkn hq hA hB hA0 hB0
    simp only [zj55, zj54, bs]
    rw [one_eq N n w k hN hk hkn hq A B hA16 hB, enc_mixed]
    cases hx : bothOn w n k A B with
    | false =>
      rw [Bool.not_false, cond_true, if_neg (by decide)]
      exact spec_digit _ K _ (enc_value w n k A B hsv hx).1
    | true =>
      have ihs : BuildOK N n w k F (A + B) := fun A' B' h => ih A' B' (by omega)
      have z1 : rowP (bothOn w n k) A B 0 = false := rfl
      have z2 : colP (bothOn w n k) A B 0 = false := rfl
      rw [Bool.not_true, cond_false, if_pos rfl, ff_first _ z1, ff_first _ z2]
      refine Eq.trans (build_rows N n w k hN hk hkn hq F A B hB0 hA hB hA16 hB16 hx ihs _ _ 15 1 N (by omega) (by omega) (by omega)) ?_
      cases ff (rowP (bothOn w n k) A B) 15 1 with
      | some x => rfl
      | none =>
        refine Eq.trans (build_cols N n w k hN hk hkn hq F A B hA0 hA hB hA16 hB16 hx ihs _ _ 15 1 N (by omega) (by omega) (by omega)) ?_
        cases ff (colP (bothOn w n k) A B) 15 1 <;> rfl
end
end Go.Proofs.YtfdggelojmofmaaDoor
namespace Go.Proofs.YtfdggelojmofmaaDoor
open Go.Rv
set_option linter.unusedVariables false
variable {β : Type}
section
variable (N n w k : Nat)
/-- What the program's recursion is to answer, and to leave behind. -/
def TextOK (F s : Nat) : Prop := ∀ (A B : Nat) (mp : Mp), A + B < s → A ≠ 0 → B ≠ 0 → A < 2 ^ 2 ^ k → B < 2 ^ 2 ^ (n - k) → GoodM (bothOn w n k) mp →
  ∃ mp', GoodM (bothOn w n k) mp' ∧ (hasN mp A B = true → mp' = mp) ∧
    ∀ {β : Type} (k0 : ByteArray → Int → Int → Int → Mp → Option β), zj116 N F (A : Int) (B : Int) (n : Int) (w : Int) (k : Int) mp k0 = k0 (bs (bothOn w n k) (isOne w n k) F A B) n w k mp'

theorem text_digits {A B : Nat} {c : Int} {q : Nat → Bool} {zA zB oA oB : Nat → Nat} (hW : Way N A B c q zA zB oA oB) (hA0 : A ≠ 0) (hB0 : B ≠ 0) (hA : A < 2 ^ 2 ^ k) (hB : B < 2 ^ 2 ^ (n - k)) (hA16 : A < 16) (hB16 : B < 16)
    (hx : bothOn w n k A B = true) (hN : 64 < N) (hk : k ≤ 2) (hkn : k ≤ n) (hq4 : n - k ≤ 2) (hw : w < 4294967296)
    (hkeys : ∀ mp, GoodM (bothOn w n k) mp → hasN mp A B = true → ∀ d, d < 16 → q d = true → hasN mp (zA d) (zB d) = true ∧ hasN mp (oA d) (oB d) = true)
    (hnode : ∀ d : Nat, d < 16 → strOf ((([] : List Int) ++ [c]) ++ [bt hexs (d : Int)]) = node c d ∧ (node c d).size = 2)
    (F : Nat) (ih : TextOK N n w k F (A + B)) (sz i : Int) (lst : List Int) :
    ∀ (e d G : Nat) (mp : Mp), d + e = 16 → e < G → GoodM (bothOn w n k) mp →
      ∃ mp', GoodM (bothOn w n k) mp' ∧ (hasN mp A B = true → mp' = mp) ∧
        ∀ {β : Type} (K0 : ByteArray → Int → Int → Int → Mp → Option β) (K1 : Int → Int → Int → Int → Int → Mp → Int → Int → List Int → Option β),
          zj112 N (zj116 N F) G c sz i (d : Int) (n : Int) (w : Int) (k : Int) mp (A : Int) (B : Int) lst K0 K1 =
            match ff (fun d => q d && (decide (need (bothOn w n k) (zA d) (zB d) < need (bothOn w n k) A B) && decide (need (bothOn w n k) (oA d) (oB d) < need (bothOn w n k) A B))) e d with
            | some x => K0 ((node c x ++ bs (bothOn w n k) (isOne w n k) F (zA x) (zB x)) ++ bs (bothOn w n k) (isOne w n k) F (oA x) (oB x)) n w k mp'
            | none => K1 sz i n w k mp' A B lst := by
  have hne : NeedOK N n w k N N := impl_need N n w k hN hk hkn hq4 hw N
  intro e
  generalize hp : (fun d => q d && (decide (need (bothOn w n k) (zA d) (zB d) < need (bothOn w n k) A B) && decide (need (bothOn w n k) (oA d) (oB d) < need (bothOn w n k) A B))) = p
  have hpd : ∀ d, p d = (q d && (decide (need (bothOn w n k) (zA d) (zB d) < need (bothOn w n k) A B) && decide (need (bothOn w n k) (oA d) (oB d) < need (bothOn w n k) A B))) := fun d => by rw [← hp]
  induction e with
  | zero =>
    intro d G mp hd hG hM
    obtain ⟨G, rfl⟩ : ∃ H, G = H + 1 := ⟨G - 1, by omega⟩
    refine ⟨mp, hM, fun _ => rfl, fun {β} K0 K1 => ?_⟩
    simp only [zj112, zj111, ff]
    rw [decide_eq_false (by omega : ¬ (d : Int) < 16), cond_false]
  | succ e ihe =>
    intro d G mp hd hG hM
    obtain ⟨G, rfl⟩ : ∃ H, G = H + 1 := ⟨G - 1, by omega⟩
    have hlt : d < 16 := by omega
    have hpe := hpd d
    cases hq : q d with
    | false =>
      rw [hq, Bool.false_and] at hpe
      obtain ⟨mp', hM', hkeep, he⟩ := ihe (d + 1) G mp (by omega) (by omega) hM
      refine ⟨mp', hM', hkeep, fun {β} K0 K1 => ?_⟩
      simp only [zj112, zj111]
      rw [decide_eq_true (by omega : (d : Int) < 16), cond_true, hW.part d hlt, hq, if_neg (by decide), cond_false, w64_succ d (by omega)]
      simp only [ff, hpe]
      exact he K0 K1
    | true =>
      rw [hq, Bool.true_and] at hpe
      have hz := hW.zero d hlt hq
      have ho := hW.one d hlt hq
      obtain ⟨mp1, hM1, hs1, hk1, hsame1, he1⟩ := hne (zA d) (zB d) mp (by omega) hz.2.1 hz.2.2.1 (by omega) (by omega) hM
      obtain ⟨mp2, hM2, hs2, hk2, hsame2, he2⟩ := hne A B mp1 (by omega) hA0 hB0 hA hB hM1
      have hk2' := hkeys mp2 hM2 hk2 d hlt hq
      have hkeep2 : hasN mp A B = true → mp2 = mp := fun h => by
        have := hkeys mp hM h d hlt hq
        have e1 := hsame1 this.1
        subst e1
        exact hsame2 h
      by_cases c1 : need (bothOn w n k) (zA d) (zB d) < need (bothOn w n k) A B
      · obtain ⟨mp3, hM3, hs3, hk3, hsame3, he3⟩ := hne (oA d) (oB d) mp2 (by omega) ho.2.1 ho.2.2.1 (by omega) (by omega) hM2
        have e3 := hsame3 hk2'.2
        subst e3
        obtain ⟨mp4, hM4, hs4, hk4, hsame4, he4⟩ := hne A B mp3 (by omega) hA0 hB0 hA hB hM3
        have e4 := hsame4 hk2
        subst e4
        by_cases c2 : need (bothOn w n k) (oA d) (oB d) < need (bothOn w n k) A B
        · rw [decide_eq_true c1, decide_eq_true c2] at hpe
          obtain ⟨mp5, hM5, hsame5, he5⟩ := ih (zA d) (zB d) mp4 (by omega) hz.2.1 hz.2.2.1 (by omega) (by omega) hM4
          have e5 := hsame5 hk2'.1
          subst e5
          obtain ⟨mp6, hM6, hsame6, he6⟩ := ih (oA d) (oB d) mp5 (by omega) ho.2.1 ho.2.2.1 (by omega) (by omega) hM5
          have e6 := hsame6 hk2'.2
          subst e6
          refine ⟨mp6, hM6, hkeep2, fun {β} K0 K1 => ?_⟩
          have s1 := bs_small (bothOn w n k) (isOne w n k) F (zA d) (zB d) (by omega) (by omega)
          have s2 := bs_small (bothOn w n k) (isOne w n k) F (oA d) (oB d) (by omega) (by omega)
          have s3 := hnode d hlt
          have hx16 : hexs.size = 16 := by decide +kernel
          have eh : strOf [48, 49, 50, 51, 52, 53, 54, 55, 56, 57, 97, 98, 99, 100, 101, 102] = hexs := rfl
          simp only [zj112, zj111, eh]
          unfold zj109
          rw [decide_eq_true (by omega : (d : Int) < 16), cond_true, hW.part d hlt, hq, if_pos rfl, cond_true]
          simp only [he1, he2, he3, he4, he5, he6, s3.1, size_ap]
          rw [decide_eq_true (by omega : (need (bothOn w n k) (zA d) (zB d) : Int) < (need (bothOn w n k) A B : Int)), cond_true, decide_eq_true (by omega : (need (bothOn w n k) (oA d) (oB d) : Int) < (need (bothOn w n k) A B : Int)), cond_true,
            gd_true (decide_eq_true (by omega : (0 : Int) ≤ (d : Int))), gd_true (decide_eq_true (by omega : (d : Int) < (hexs.size : Int)))]
          have g1 : decide ((node c d).size + (bs (bothOn w n k) (isOne w n k) F (zA d) (zB d)).size ≤ 9223372036854775807) = true := decide_eq_true (by omega)
          have g2 : decide ((node c d).size + (bs (bothOn w n k) (isOne w n k) F (zA d) (zB d)).size + (bs (bothOn w n k) (isOne w n k) F (oA d) (oB d)).size ≤ 9223372036854775807) = true := decide_eq_true (by omega)
          simp only [g1, g2, gd_t, zj110, decide_true, beq_self_eq_true, ff, hpe, Bool.and_self, if_true]
        · rw [decide_eq_false c2, Bool.and_false] at hpe
          obtain ⟨mp', hM', hkeep, he⟩ := ihe (d + 1) G mp4 (by omega) (by omega) hM4
          refine ⟨mp', hM', fun h => by have := hkeep2 h; subst this; exact hkeep h, fun {β} K0 K1 => ?_⟩
          simp only [zj112, zj111]
          unfold zj109
          rw [decide_eq_true (by omega : (d : Int) < 16), cond_true, hW.part d hlt, hq, if_pos rfl, cond_true, he1, he2, decide_eq_true (by omega : (need (bothOn w n k) (zA d) (zB d) : Int) < (need (bothOn w n k) A B : Int)), cond_true, he3, he4, decide_eq_false (by omega : ¬ (need (bothOn w n k) (oA d) (oB d) : Int) < (need (bothOn w n k) A B : Int)), cond_false, w64_succ d (by omega)]
          simp only [ff, hpe]
          exact he K0 K1
      · rw [decide_eq_false c1, Bool.false_and] at hpe
        obtain ⟨mp', hM', hkeep, he⟩ := ihe (d + 1) G mp2 (by omega) (by omega) hM2
        refine ⟨mp', hM', fun h => by have := hkeep2 h; subst this; exact hkeep h, fun {β} K0 K1 => ?_⟩
        simp only [zj112, zj111]
        unfold zj109
        rw [decide_eq_true (by omega : (d : Int) < 16), cond_true, hW.part d hlt, hq, if_pos rfl, cond_true, he1, he2, decide_eq_false (by omega : ¬ (need (bothOn w n k) (zA d) (zB d) : Int) < (need (bothOn w n k) A B : Int)), cond_false, w64_succ d (by omega)]
        simp only [ff, hpe]
        exact he K0 K1

theorem impl_text (hN : 64 < N) (hk : k ≤ 2) (hkn : k ≤ n) (hq : n - k ≤ 2) (hw : w < 4294967296) (F : Nat) : TextOK N n w k F F := by
  have h4 : 2 ^ (n - k) ≤ 4 := Nat.pow_le_pow_right (by decide) hq
  have h4k : 2 ^ k ≤ 4 := Nat.pow_le_pow_right (by decide) hk
  induction F with
  | zero => intro A B mp h; omega
  | succ F ih =>
    intro A B mp hAB hA0 hB0 hA hB hM
    have hA16 : A < 16 := Nat.lt_of_lt_of_le hA (Nat.pow_le_pow_right (by decide) h4k : 2 ^ 2 ^ k ≤ 2 ^ 4)
    have hB16 : B < 16 := Nat.lt_of_lt_of_le hB (Nat.pow_le_pow_right (by decide) h4 : 2 ^ 2 ^ (n - k) ≤ 2 ^ 4)
    have hsv := some_value w n k A B hk hkn hq hA hB hA0 hB0
    cases hx : bothOn w n k A B with
    | false =>
      have hv := (enc_value w n k A B hsv hx).2
      have hbs : bs (bothOn w n k) (isOne w n k) (F + 1) A B = strOf [if isOne w n k A B then 49 else 48] := by
        simp only [bs, hx]
        rfl
      refine ⟨mp, hM, fun _ => rfl, fun {β} k0 => ?_⟩
      rw [hbs]
      simp only [zj116, zj115]
      rw [impl_value_eq N hN n w k A B (by omega) (by omega) hw hA16 hB16, hv, decide_eq_true (by omega : ((if isOne w n k A B then 1 else 0 : Nat) : Int) ≥ 0), cond_true, impl_digit]
    | true =>
      have ihs : TextOK N n w k F (A + B) := fun A' B' mp' h => ih A' B' mp' (by omega)
      have hneg : decide (encI (Go.Proofs.YtfdggelojmofmaaDoor.hx w k A B false (2 ^ n) 0) (Go.Proofs.YtfdggelojmofmaaDoor.hx w k A B true (2 ^ n) 0) ≥ 0) = false := by
        have h1 := encI_mixed w n k A B hsv
        rw [hx] at h1
        have h2 := of_decide_eq_true h1
        exact decide_eq_false (by omega)
      have hr : ∀ mp, GoodM (bothOn w n k) mp → hasN mp A B = true → ∀ d, d < 16 → sub A d = true → hasN mp (A - d) B = true ∧ hasN mp d B = true := fun mp hg hh d h1 h2 => ((hg A B hh).2 hx).1 d h1 h2
      have hc : ∀ mp, GoodM (bothOn w n k) mp → hasN mp A B = true → ∀ d, d < 16 → sub B d = true → hasN mp A (B - d) = true ∧ hasN mp A d = true := fun mp hg hh d h1 h2 => ((hg A B hh).2 hx).2 d h1 h2
      obtain ⟨mp1, hM1, hk1, he1⟩ := text_digits N n w k (way_row N (B := B) hA16 hB0) hA0 hB0 hA hB hA16 hB16 hx hN hk hkn hq hw hr (fun d hd => ⟨(hexs_bt d hd).1, (size_node d hd).1⟩) F ihs 2 0 [65, 66] 16 0 N mp (by omega) (by omega) hM
      obtain ⟨mp2, hM2, hk2, he2⟩ := text_digits N n w k (way_col N (A := A) hB16 hA0) hA0 hB0 hA hB hA16 hB16 hx hN hk hkn hq hw hc (fun d hd => ⟨(hexs_bt d hd).2, (size_node d hd).2⟩) F ihs 2 1 [65, 66] 16 0 N mp1 (by omega) (by omega) hM1
      obtain ⟨H, hH⟩ : ∃ H, N = H + 3 := ⟨N - 3, by omega⟩
      have hloop : ∀ {β : Type} (k0 : ByteArray → Int → Int → Int → Mp → Option β), zj116 N (F + 1) (A : Int) (B : Int) (n : Int) (w : Int) (k : Int) mp k0 =
          zj114 N (zj116 N F) (H + 3) 2 0 (n : Int) (w : Int) (k : Int) mp (A : Int) (B : Int) [65, 66] k0 (fun e0 e1 e2 e3 => k0 ByteArray.empty e0 e1 e2 e3) := by
        intro β k0
        simp only [zj116, zj115]
        rw [impl_value_eq N hN n w k A B (by omega) (by omega) hw hA16 hB16, hneg, cond_false, ← hH]
        rfl
      cases h1 : ff (rowP (bothOn w n k) A B) 16 0 with
      | some x =>
        refine ⟨mp1, hM1, hk1, fun {β} k0 => ?_⟩
        rw [hloop]
        refine Eq.trans (he1 (β := β) (fun e0 e1 e2 e3 e4 => k0 e0 e1 e2 e3 e4) (fun e25_0 e25_1 e25_2 e25_3 e25_4 e25_5 e25_6 e25_7 e25_8 => zj114 N (zj116 N F) (H + 2) e25_0 (w64 (e25_1 + 1)) e25_2 e25_3 e25_4 e25_5 e25_6 e25_7 e25_8 k0 (fun e0 e1 e2 e3 => k0 ByteArray.empty e0 e1 e2 e3))) ?_
        show (match ff (rowP (bothOn w n k) A B) 16 0 with | some x => _ | none => _) = _
        simp only [bs, hx, h1, if_true]
      | none =>
        have hstep : ∀ {β : Type} (k0 : ByteArray → Int → Int → Int → Mp → Option β), zj116 N (F + 1) (A : Int) (B : Int) (n : Int) (w : Int) (k : Int) mp k0 = 
            (match ff (colP (bothOn w n k) A B) 16 0 with
            | some x => k0 ((node 66 x ++ bs (bothOn w n k) (isOne w n k) F A (B - x)) ++ bs (bothOn w n k) (isOne w n k) F A x) n w k mp2
            | none => zj114 N (zj116 N F) (H + 1) 2 2 n w k mp2 A B [65, 66] k0 (fun e0 e1 e2 e3 => k0 ByteArray.empty e0 e1 e2 e3)) := by
          intro β k0
          rw [hloop]
          refine Eq.trans (he1 (β := β) (fun e0 e1 e2 e3 e4 => k0 e0 e1 e2 e3 e4) (fun e25_0 e25_1 e25_2 e25_3 e25_4 e25_5 e25_6 e25_7 e25_8 => zj114 N (zj116 N F) (H + 2) e25_0 (w64 (e25_1 + 1)) e25_2 e25_3 e25_4 e25_5 e25_6 e25_7 e25_8 k0 (fun e0 e1 e2 e3 => k0 ByteArray.empty e0 e1 e2 e3))) ?_
          show (match ff (rowP (bothOn w n k) A B) 16 0 with | some x => _ | none => _) = _
          simp only [h1]
          exact he2 (β := β) (fun e0 e1 e2 e3 e4 => k0 e0 e1 e2 e3 e4) (fun e25_0 e25_1 e25_2 e25_3 e25_4 e25_5 e25_6 e25_7 e25_8 => zj114 N (zj116 N F) (H + 1) e25_0 (w64 (e25_1 + 1)) e25_2 e25_3 e25_4 e25_5 e25_6 e25_7 e25_8 k0 (fun e0 e1 e2 e3 => k0 ByteArray.empty e0 e1 e2 e3))
        refine ⟨mp2, hM2, fun h => ?_, fun {β} k0 => ?_⟩
        · have e1 := hk1 h
          subst e1
          exact hk2 h
        · rw [hstep]
          cases h2 : ff (colP (bothOn w n k) A B) 16 0 with
          | some y => simp only [bs, hx, h1, h2, if_true]
          | none =>
            simp only [bs, hx, h1, h2, if_true]
            rfl
end
end Go.Proofs.YtfdggelojmofmaaDoor
namespace Go.Proofs.YtfdggelojmofmaaDoor
open Go.Rv
set_option linter.unusedVariables false
variable {β : Type}
/-- Tables with few variables on each side. -/
def fineT (a0 a1 a2 : Int) : Bool := isT a0 a1 && ((decide (0 ≤ a2) && decide (a2 ≤ 2)) && (decide (0 ≤ a0 - a2) && decide (a0 - a2 ≤ 2)))
theorem fineT_nat {a0 a1 a2 : Int} (h : fineT a0 a1 a2 = true) : ∃ n w k : Nat, a0 = n ∧ a1 = w ∧ a2 = k ∧ n ≤ 5 ∧ w < 2 ^ 2 ^ n ∧ w < 4294967296 ∧ k ≤ 2 ∧ k ≤ n ∧ n - k ≤ 2 := by
  unfold fineT at h
  simp only [Bool.and_eq_true, decide_eq_true_eq] at h
  obtain ⟨ht, ⟨h1, h2⟩, h3, h4⟩ := h
  obtain ⟨n, w, rfl, rfl, hn, hw, hw'⟩ := isT_nat ht
  obtain ⟨k, rfl⟩ := Int.eq_ofNat_of_zero_le h1
  exact ⟨n, w, k, rfl, rfl, rfl, hn, hw, hw', by omega, by omega, by omega⟩
theorem spec_l21Fine_eq (N : Nat) (a0 a1 a2 : Int) (h0 : -9223372036854775808 ≤ a0 ∧ a0 ≤ 9223372036854775807) (k : Bool → Option β) : zj35 N a0 a1 a2 k = k (fineT a0 a1 a2) := by
  unfold zj35 fineT
  simp only [spec_IsTable_eq, spec_l1In_eq]
  cases ht : isT a0 a1 with
  | false => rfl
  | true =>
    obtain ⟨n, w, rfl, rfl, hn, hw, hw'⟩ := isT_nat ht
    cases h1 : (decide (0 ≤ a2) && decide (a2 ≤ 2)) with
    | false => rfl
    | true =>
      simp only [Bool.and_eq_true, decide_eq_true_eq] at h1
      rw [w64_id (by omega) (by omega)]
      rfl
theorem impl_isSplit_eq (N : Nat) (a0 a1 a2 : Int) (h1 : a1 < 9223372036854775808) (k : Bool → Option β) : zj62 N a0 a1 a2 k = k (isT a0 a1 && (decide (0 ≤ a2) && decide (a2 ≤ a0))) := by
  unfold zj62
  simp only [impl_IsTable_eq N a0 a1 h1]
  cases isT a0 a1 with
  | false => rfl
  | true =>
    by_cases h : 0 ≤ a2
    · rw [decide_eq_true (by omega : a2 ≥ 0)]; rfl
    · rw [decide_eq_false (by omega : ¬ a2 ≥ 0)]; rfl
/-- All rows, or columns. -/
def top (k : Nat) : Nat := 2 ^ 2 ^ k - 1
theorem top_ok : ∀ k, k ≤ 2 → top k < 2 ^ 2 ^ k ∧ top k ≠ 0 ∧ top k < 16 := by decide +kernel
theorem top_spec (k : Nat) (hk : k ≤ 2) : w64 (shlI .i64 1 ((2 ^ k : Nat) : Int) - 1) = (top k : Int) := by
  have h4 : 2 ^ k ≤ 4 := Nat.pow_le_pow_right (by decide) hk
  have hp : 2 ^ 2 ^ k ≤ 2 ^ 4 := Nat.pow_le_pow_right (by decide) h4
  have := Nat.two_pow_pos (2 ^ k)
  rw [shl_one _ (by omega), show ((2 ^ 2 ^ k : Nat) : Int) - 1 = ((2 ^ 2 ^ k - 1 : Nat) : Int) by omega, w64_nat _ (by omega)]
  rfl
theorem good_nil (mx : Nat → Nat → Bool) : GoodM mx ([] : Mp) := fun A B h => by cases h
theorem impl_talking_eq (N : Nat) (a0 a1 a2 : Int) (h0 : -9223372036854775808 ≤ a0 ∧ a0 ≤ 9223372036854775807) (h1 : a1 < 9223372036854775808) (h2 : -9223372036854775808 ≤ a2 ∧ a2 ≤ 9223372036854775807) (k0 : Int → Int → Option β) (k1 : Int → Int → Int → Int → Int → Mp → Option β) :
    zj95 N a0 a1 a2 k0 k1 = if fineT a0 a1 a2 then k1 (top a2.toNat : Int) (top (a0 - a2).toNat : Int) a0 a1 a2 [] else k0 0 0 := by
  unfold zj95
  rw [impl_isSplit_eq N a0 a1 a2 h1]
  cases hf : fineT a0 a1 a2 with
  | true =>
    obtain ⟨n, w, k, rfl, rfl, rfl, hn, hw, hw', hk, hkn, hq⟩ := fineT_nat hf
    have h4k : 2 ^ k ≤ 4 := Nat.pow_le_pow_right (by decide) hk
    have h4 : 2 ^ (n - k) ≤ 4 := Nat.pow_le_pow_right (by decide) hq
    rw [isT_of hn hw, decide_eq_true (by omega : (0 : Int) ≤ (k : Int)), decide_eq_true (by omega : (k : Int) ≤ (n : Int)), show ((n : Int) - (k : Int)) = ((n - k : Nat) : Int) by omega, w64_nat _ (by omega), decide_eq_false (by omega : ¬ (k : Int) > 2), decide_eq_false (by omega : ¬ ((n - k : Nat) : Int) > 2)]
    simp only [Bool.and_self, Bool.not_true, cond_false, if_true]
    rw [gd_true rfl, shl_u64 k (by omega), gd_true (decide_eq_true (Int.natCast_nonneg (2 ^ k))), gd_true (decide_eq_true (by omega : (0 : Int) ≤ ((n - k : Nat) : Int))), shl_u64 (n - k) (by omega), gd_true (decide_eq_true (Int.natCast_nonneg (2 ^ (n - k)))), top_spec k hk, top_spec (n - k) hq, Int.toNat_natCast, Int.toNat_natCast]
  | false =>
    unfold fineT at hf
    rw [if_neg (by decide)]
    cases ht : isT a0 a1 with
    | false => rfl
    | true =>
      obtain ⟨n, w, rfl, rfl, hn, hw, hw'⟩ := isT_nat ht
      rw [ht, Bool.true_and] at hf
      by_cases e1 : 0 ≤ a2
      · by_cases e2 : a2 ≤ (n : Int)
        · rw [decide_eq_true e1, decide_eq_true e2]
          simp only [Bool.and_self, Bool.not_true, cond_false]
          by_cases e3 : a2 > 2
          · rw [decide_eq_true e3]; rfl
          · rw [decide_eq_false e3, cond_false, w64_id (by omega) (by omega)]
            by_cases e4 : (n : Int) - a2 > 2
            · rw [decide_eq_true e4]; rfl
            · rw [decide_eq_true e1, decide_eq_true (by omega : a2 ≤ 2), decide_eq_true (by omega : 0 ≤ (n : Int) - a2), decide_eq_true (by omega : (n : Int) - a2 ≤ 2)] at hf
              cases hf
        · rw [decide_eq_false e2, Bool.and_false]; rfl
      · rw [decide_eq_false e1]; rfl

/-- The least number of bits of a table, and the first protocol with so few. -/
def bits21 (a0 a1 a2 : Int) : Nat := need (bothOn a1.toNat a0.toNat a2.toNat) (top a2.toNat) (top (a0 - a2).toNat)
def prot (N : Nat) (a0 a1 a2 : Int) : ByteArray := bs (bothOn a1.toNat a0.toNat a2.toNat) (isOne a1.toNat a0.toNat a2.toNat) N (top a2.toNat) (top (a0 - a2).toNat)

section
variable (N : Nat) (hN : 64 < N) (a0 a1 a2 : Int) (h0 : -9223372036854775808 ≤ a0 ∧ a0 ≤ 9223372036854775807) (h1 : -9223372036854775808 ≤ a1 ∧ a1 ≤ 9223372036854775807) (h2 : -9223372036854775808 ≤ a2 ∧ a2 ≤ 9223372036854775807)
include hN h0
theorem spec_LeastBits_eq (k : Int → Option β) : zj48 N a0 a1 a2 k = k (if fineT a0 a1 a2 then (bits21 a0 a1 a2 : Int) else -1) := by
  unfold zj48
  rw [spec_l21Fine_eq N a0 a1 a2 h0]
  cases hf : fineT a0 a1 a2 with
  | false => rfl
  | true =>
    obtain ⟨n, w, k, rfl, rfl, rfl, hn, hw, hw', hk, hkn, hq⟩ := fineT_nat hf
    have h4k : 2 ^ k ≤ 4 := Nat.pow_le_pow_right (by decide) hk
    have h4 : 2 ^ (n - k) ≤ 4 := Nat.pow_le_pow_right (by decide) hq
    have t1 := top_ok k hk
    have t2 := top_ok (n - k) hq
    have hS := mixed_single w n k hk hkn hq
    have hle := need_le4 hS (top k) (top (n - k)) t1.2.2 t2.2.2
    unfold zj7
    simp only [spec_IsTable_eq, spec_l1In_eq]
    rw [isT_of hn hw, decide_eq_true (by omega : (0 : Int) ≤ (k : Int)), decide_eq_true (by omega : (k : Int) ≤ (n : Int))]
    simp only [Bool.and_self, Bool.not_true, cond_false, if_true]
    refine Eq.trans (mat_outer (β := β) N hN n w k hk hkn hq hw' _ (2 ^ k) 0 N (by omega) (by omega)) ?_
    have hl := rows_len w k (2 ^ (n - k)) (2 ^ k)
    simp only [hl]
    rw [show ((n : Int) - (k : Int)) = ((n - k : Nat) : Int) by omega, w64_nat _ (by omega), gd_true (decide_eq_true (Int.natCast_nonneg (2 ^ k))), gd_true (decide_eq_true (by omega : (0 : Int) ≤ ((n - k : Nat) : Int))), shl_u64 (n - k) (by omega), gd_true (decide_eq_true (Int.natCast_nonneg (2 ^ (n - k)))), top_spec k hk, top_spec (n - k) hq]
    unfold zj47
    refine Eq.trans (spec_least N n w k hN hk hkn hq N (top k) (top (n - k)) 4 (by omega) t1.2.2 t2.1 (by omega) _) ?_
    unfold bits21
    rw [show ((n : Int) - (k : Int)) = ((n - k : Nat) : Int) by omega]
    simp only [Int.toNat_natCast]
    rw [show min (need (bothOn w n k) (top k) (top (n - k))) (4 + 1) = need (bothOn w n k) (top k) (top (n - k)) by omega]
theorem spec_ProtocolOf_eq (k : ByteArray → Bool → Option β) : zj57 N a0 a1 a2 k = if fineT a0 a1 a2 then k (prot N a0 a1 a2) true else k ByteArray.empty false := by
  unfold zj57
  rw [spec_l21Fine_eq N a0 a1 a2 h0]
  cases hf : fineT a0 a1 a2 with
  | false => rfl
  | true =>
    have hlb := fun K : Int → Option β => spec_LeastBits_eq (β := β) N hN a0 a1 a2 h0 K
    obtain ⟨n, w, k, rfl, rfl, rfl, hn, hw, hw', hk, hkn, hq⟩ := fineT_nat hf
    have h4k : 2 ^ k ≤ 4 := Nat.pow_le_pow_right (by decide) hk
    have h4 : 2 ^ (n - k) ≤ 4 := Nat.pow_le_pow_right (by decide) hq
    have t1 := top_ok k hk
    have t2 := top_ok (n - k) hq
    unfold zj7
    simp only [spec_IsTable_eq, spec_l1In_eq]
    rw [isT_of hn hw, decide_eq_true (by omega : (0 : Int) ≤ (k : Int)), decide_eq_true (by omega : (k : Int) ≤ (n : Int))]
    simp only [Bool.and_self, Bool.not_true, cond_false, if_true]
    refine Eq.trans (mat_outer (β := β) N hN n w k hk hkn hq hw' _ (2 ^ k) 0 N (by omega) (by omega)) ?_
    have hl := rows_len w k (2 ^ (n - k)) (2 ^ k)
    simp only [hl, hlb, hf, if_true]
    rw [show ((n : Int) - (k : Int)) = ((n - k : Nat) : Int) by omega, w64_nat _ (by omega), gd_true (decide_eq_true (Int.natCast_nonneg (2 ^ k))), gd_true (decide_eq_true (by omega : (0 : Int) ≤ ((n - k : Nat) : Int))), shl_u64 (n - k) (by omega), gd_true (decide_eq_true (Int.natCast_nonneg (2 ^ (n - k)))), top_spec k hk, top_spec (n - k) hq]
    unfold zj56 bits21 prot
    rw [show ((n : Int) - (k : Int)) = ((n - k : Nat) : Int) by omega]
    simp only [Int.toNat_natCast]
    exact spec_build N n w k hN hk hkn hq N (top k) (top (n - k)) (by omega) t1.2.1 t2.2.1 t1.1 t2.1 _
include h1 h2
theorem impl_LeastBits_eq (k : Int → Option β) : zj119 N a0 a1 a2 k = k (if fineT a0 a1 a2 then (bits21 a0 a1 a2 : Int) else -1) := by
  unfold zj119
  rw [impl_talking_eq N a0 a1 a2 h0 (by omega) h2]
  cases hf : fineT a0 a1 a2 with
  | false => rfl
  | true =>
    obtain ⟨n, w, k, rfl, rfl, rfl, hn, hw, hw', hk, hkn, hq⟩ := fineT_nat hf
    have t1 := top_ok k hk
    have t2 := top_ok (n - k) hq
    rw [if_pos rfl, if_pos rfl]
    unfold bits21 zj109
    rw [show ((n : Int) - (k : Int)) = ((n - k : Nat) : Int) by omega]
    simp only [Int.toNat_natCast]
    obtain ⟨mp', _, _, _, _, he⟩ := impl_need N n w k hN hk hkn hq hw' N (top k) (top (n - k)) [] (by omega) t1.2.1 t2.2.1 t1.1 t2.1 (good_nil _)
    exact he _
theorem impl_ProtocolOf_eq (k : ByteArray → Bool → Option β) : zj118 N a0 a1 a2 k = if fineT a0 a1 a2 then k (prot N a0 a1 a2) true else k ByteArray.empty false := by
  unfold zj118
  rw [impl_talking_eq N a0 a1 a2 h0 (by omega) h2]
  cases hf : fineT a0 a1 a2 with
  | false => rfl
  | true =>
    obtain ⟨n, w, k, rfl, rfl, rfl, hn, hw, hw', hk, hkn, hq⟩ := fineT_nat hf
    have t1 := top_ok k hk
    have t2 := top_ok (n - k) hq
    rw [if_pos rfl, if_pos rfl]
    unfold prot zj117
    rw [show ((n : Int) - (k : Int)) = ((n - k : Nat) : Int) by omega]
    simp only [Int.toNat_natCast]
    obtain ⟨mp', _, _, he⟩ := impl_text N n w k hN hk hkn hq hw' N (top k) (top (n - k)) [] (by omega) t1.2.1 t2.2.1 t1.1 t2.1 (good_nil _)
    exact he _
end
end Go.Proofs.YtfdggelojmofmaaDoor
