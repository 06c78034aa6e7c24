/- Plain laws of the texts. -/
import Derived.Test.YtemihnclhcobnaaGreatDoorT0
import Derived.Test.YtemihnclhcobnaaGreatDoorRvNum
namespace Go.Proofs.YtemihnclhcobnaaGreatDoor
open Go.Rv

variable {β : Type}
end Go.Proofs.YtemihnclhcobnaaGreatDoor
namespace Go.Proofs.YtemihnclhcobnaaGreatDoor
open Go.Rv
variable {β : Type}

end Go.Proofs.YtemihnclhcobnaaGreatDoor
namespace Go.Proofs.YtemihnclhcobnaaGreatDoor
open Go.Rv
set_option linter.unusedVariables false
variable {β : Type}
/-- A table's word, input by input. -/
def tabw (g : Nat → Bool) : Nat → Nat
  | 0 => 0
  | i + 1 => tabw g i ||| (if g i then 2 ^ i else 0)
theorem tabw_lt (g : Nat → Bool) : ∀ i, tabw g i < 2 ^ i
  | 0 => by simp [tabw]
  | i + 1 => by
    have := tabw_lt g i
    unfold tabw
    have h2 : 2 ^ (i + 1) = 2 ^ i + 2 ^ i := by rw [Nat.pow_succ]; omega
    refine Nat.or_lt_two_pow (by omega) ?_
    split
    · have := Nat.two_pow_pos i; omega
    · exact Nat.two_pow_pos _
theorem pow_le_64 {n : Nat} (h : n ≤ 62) : 2 ^ n < 9223372036854775808 := Nat.lt_of_le_of_lt (Nat.pow_le_pow_right (by decide) h) (by decide)
theorem size_le {n : Nat} (h : n ≤ 5) : 2 ^ n ≤ 32 := Nat.le_trans (Nat.pow_le_pow_right (by decide) h) (by decide)

theorem shl_one (n : Nat) (h : n ≤ 62) : shlI .i64 1 (n : Int) = ((2 ^ n : Nat) : Int) := by
  have := shl_nat 1 n (by omega) (by rw [Nat.one_mul]; exact pow_le_64 h)
  rw [Nat.one_mul] at this
  exact this

theorem makeTable_loop (N : Nat) (h : Int → (Bool → Option β) → Option β) (g : Nat → Bool) (m : Nat) (hm : m ≤ 32) (hh : ∀ (x : Nat) k, x < m → h (x : Int) k = k (g x)) (k0 : Int → Int → Int → Int → Option β) (a b n : Int) :
    ∀ (F i : Nat), m - i < F → i ≤ m → zj91 N h F (m : Int) (i : Int) a b n (tabw g i : Int) k0 = k0 a b n (tabw g m : Int) := by
  intro F
  induction F with
  | zero => intro i hF; omega
  | succ F ih =>
    intro i hF hi
    simp only [zj91, zj90]
    by_cases hlt : i < m
    · rw [decide_eq_true (by omega : (i : Int) < (m : Int))]
      simp only [cond_true, hh i _ hlt]
      have h1 := ih (i + 1) (by omega) (by omega)
      rw [w64_succ i (by omega)]
      have hw : tabw g i < 2 ^ 63 := Nat.lt_of_lt_of_le (tabw_lt g i) (Nat.pow_le_pow_right (by decide) (by omega))
      cases hg : g i with
      | true =>
        have e : tabw g (i + 1) = tabw g i ||| 2 ^ i := by simp [tabw, hg]
        rw [e] at h1
        simp only [cond_true, gd_true (decide_eq_true (by omega : 0 ≤ (i : Int)))]
        rw [shl_one i (by omega), bOr _ _ hw (Nat.pow_lt_pow_right (by decide) (by omega))]
        exact h1
      | false =>
        have e : tabw g (i + 1) = tabw g i := by simp [tabw, hg]
        rw [e] at h1
        exact h1
    · have : i = m := by omega
      subst this
      rw [decide_eq_false (by omega : ¬ (i : Int) < (i : Int))]
      rfl

theorem makeTable_eq (N : Nat) (hN : 64 < N) (n : Nat) (hn : n ≤ 5) (h : Int → (Bool → Option β) → Option β) (g : Nat → Bool) (hh : ∀ (x : Nat) k, x < 2 ^ n → h (x : Int) k = k (g x)) (k : Int → Int → Option β) :
    zj92 N (n : Int) h k = k n (tabw g (2 ^ n) : Int) := by
  unfold zj92
  rw [gd_true (decide_eq_true (by omega)), shl_one n (by omega)]
  have := size_le hn
  exact makeTable_loop N h g (2 ^ n) this hh (fun _ _ e2 e3 => k e2 e3) 0 0 n N 0 (by omega) (Nat.zero_le _)

def ys (x i b : Nat) : Nat := x - (x &&& 2 ^ i) + b * 2 ^ i
/-- A bit of a word, as the program takes it. -/
theorem bit_at (w y : Nat) (hw : w < 9223372036854775808) : bits .and .i64 (shrI .i64 (w : Int) (y : Int)) 1 = ((if w.testBit y then 1 else 0 : Nat) : Int) := by
  rw [shr_nat w y hw]
  have h1 : w / 2 ^ y < 2 ^ 63 := Nat.lt_of_le_of_lt (Nat.div_le_self _ _) hw
  have := bAnd (w / 2 ^ y) 1 h1 (by decide)
  rw [show ((1 : Nat) : Int) = 1 from rfl] at this
  rw [this, Nat.and_one_is_mod]
  congr 1
  rw [Nat.testBit, Nat.shiftRight_eq_div_pow, Nat.and_comm, Nat.and_one_is_mod]
  have := Nat.mod_two_eq_zero_or_one (w / 2 ^ y)
  rcases this with h | h <;> simp [h]

/-- What a table is. -/
def isT (a0 a1 : Int) : Bool := decide (0 ≤ a0) && decide (a0 ≤ 5) && decide (0 ≤ a1) && decide (a1 < 2 ^ 2 ^ a0.toNat)

theorem shl_u64 : ∀ n : Nat, n ≤ 5 → shlI .u64 1 (n : Int) = ((2 ^ n : Nat) : Int) := by decide +kernel

theorem spec_IsTable_eq (N : Nat) (a0 a1 : Int) (k : Bool → Option β) : zj18 N a0 a1 k = k (isT a0 a1) := by
  unfold zj18 zj0
  by_cases h0 : 0 ≤ a0
  · rw [decide_eq_true (by omega : a0 ≥ 0)]
    simp only [cond_true]
    by_cases h5 : a0 ≤ 5
    · rw [decide_eq_true h5]
      obtain ⟨n, rfl⟩ := Int.eq_ofNat_of_zero_le h0
      have hn : n ≤ 5 := by omega
      have hs := size_le hn
      have hp := pow_le_64 (n := 2 ^ n) (by omega)
      have hpos := Nat.two_pow_pos (2 ^ n)
      simp only [cond_true]
      rw [gd_true rfl, shl_u64 n hn, gd_true (decide_eq_true (Int.natCast_nonneg _)), shl_one (2 ^ n) (by omega), w64_id (by omega) (by omega)]
      have e : isT (n : Int) a1 = (decide (0 ≤ a1) && decide (a1 < ((2 ^ 2 ^ n : Nat) : Int))) := by
        simp only [isT, Int.toNat_natCast, decide_eq_true (by omega : 0 ≤ (n : Int)), decide_eq_true (by omega : (n : Int) ≤ 5), Bool.true_and]
        push_cast
        rfl
      rw [e]
      by_cases h1 : 0 ≤ a1
      · rw [decide_eq_true (by omega : a1 ≥ 0)]
        simp only [cond_true, Bool.true_and]
        congr 1
        exact decide_eq_decide.2 (by omega)
      · rw [decide_eq_false (by omega : ¬ a1 ≥ 0)]; rfl
    · rw [decide_eq_false h5]
      simp [isT, h5]
  · rw [decide_eq_false (by omega : ¬ a0 ≥ 0)]
    simp [isT, h0]

theorem impl_IsTable_eq (N : Nat) (a0 a1 : Int) (h : a1 < 9223372036854775808) (k : Bool → Option β) : zj93 N a0 a1 k = k (isT a0 a1) := by
  unfold zj93 zj71 zj66
  by_cases h0 : 0 ≤ a0
  · rw [decide_eq_true (by omega : a0 ≥ 0)]
    simp only [cond_true]
    by_cases h5 : a0 ≤ 5
    · rw [decide_eq_true h5]
      obtain ⟨n, rfl⟩ := Int.eq_ofNat_of_zero_le h0
      have hn : n ≤ 5 := by omega
      have hs := size_le hn
      have hpos := Nat.two_pow_pos (2 ^ n)
      simp only [cond_true]
      rw [gd_true rfl]
      have e : isT (n : Int) a1 = (decide (0 ≤ a1) && decide (a1 < ((2 ^ 2 ^ n : Nat) : Int))) := by
        simp only [isT, Int.toNat_natCast, decide_eq_true (by omega : 0 ≤ (n : Int)), decide_eq_true (by omega : (n : Int) ≤ 5), Bool.true_and]
        push_cast
        rfl
      rw [e]
      by_cases h1 : 0 ≤ a1
      · obtain ⟨w, rfl⟩ := Int.eq_ofNat_of_zero_le h1
        rw [decide_eq_true (by omega : (w : Int) ≥ 0), shl_one n (by omega)]
        simp only [cond_true, Bool.true_and]
        rw [gd_true (decide_eq_true (Int.natCast_nonneg _)), shr_nat w (2 ^ n) (by omega)]
        congr 1
        have : w / 2 ^ 2 ^ n = 0 ↔ w < 2 ^ 2 ^ n := by
          rw [Nat.div_eq_zero_iff]
          omega
        by_cases hw : w < 2 ^ 2 ^ n
        · rw [this.2 hw, decide_eq_true (by omega)]; rfl
        · rw [decide_eq_false (by omega)]
          have : ¬ w / 2 ^ 2 ^ n = 0 := fun h => hw (this.1 h)
          simp only [beq_eq_false_iff_ne, ne_eq]
          omega
      · rw [decide_eq_false (by omega : ¬ a1 ≥ 0)]; rfl
    · rw [decide_eq_false h5]
      simp [isT, h5]
  · rw [decide_eq_false (by omega : ¬ a0 ≥ 0)]
    simp [isT, h0]
end Go.Proofs.YtemihnclhcobnaaGreatDoor
namespace Go.Proofs.YtemihnclhcobnaaGreatDoor
open Go.Rv
set_option linter.unusedVariables false
variable {β : Type}
theorem tabw_bit (g : Nat → Bool) : ∀ (n x : Nat), (tabw g n).testBit x = (decide (x < n) && g x)
  | 0, x => by simp [tabw]
  | n + 1, x => by
    unfold tabw
    rw [Nat.testBit_or, tabw_bit g n x]
    by_cases hx : x = n
    · subst hx
      cases hg : g x <;> simp [Nat.testBit_two_pow_self]
    · have h1 : (if g n then 2 ^ n else 0 : Nat).testBit x = false := by
        split
        · exact Nat.testBit_two_pow_of_ne (Ne.symm hx)
        · exact Nat.zero_testBit _
      rw [h1, Bool.or_false]
      congr 1
      exact decide_eq_decide.2 (by omega)

/-- A bit put in between. -/
def ins (x i b : Nat) : Nat := (x / 2 ^ i) * 2 ^ (i + 1) ||| b * 2 ^ i ||| (x &&& (2 ^ i - 1))
/-- Whether a word depends on an input. -/
def dep (w n i : Nat) : Bool := tabw (fun x => w.testBit (ins x i 0)) (2 ^ (n - 1)) != tabw (fun x => w.testBit (ins x i 1)) (2 ^ (n - 1))

/-- The inputs that a word depends on. -/
def vars (w n m : Nat) : List Int := ((List.range m).filter fun i => dep w n i).map Int.ofNat
end Go.Proofs.YtemihnclhcobnaaGreatDoor
namespace Go.Proofs.YtemihnclhcobnaaGreatDoor
open Go.Rv
set_option linter.unusedVariables false
variable {β : Type}
end Go.Proofs.YtemihnclhcobnaaGreatDoor
namespace Go.Proofs.YtemihnclhcobnaaGreatDoor
open Go.Rv
set_option linter.unusedVariables false
variable {β : Type}
theorem spec_l1In_eq (N : Nat) (a b c : Int) (k : Bool → Option β) : zj0 N a b c k = k (decide (b ≤ a) && decide (a ≤ c)) := by
  unfold zj0
  by_cases h : b ≤ a
  · rw [decide_eq_true (by omega : a ≥ b)]; rfl
  · rw [decide_eq_false (by omega : ¬ a ≥ b)]; rfl
/-- A set with more numbers. -/
def addAll (s : Nat) (l : List Int) : Nat := l.foldl (fun s x => s ||| 2 ^ x.toNat) s

end Go.Proofs.YtemihnclhcobnaaGreatDoor
namespace Go.Proofs.YtemihnclhcobnaaGreatDoor
open Go.Rv
set_option linter.unusedVariables false
variable {β : Type}
/-- How many ones a number has, of at most so many bits. -/
def pc : Nat → Nat → Nat
  | 0, _ => 0
  | f + 1, w => w % 2 + pc f (w / 2)
/-- The ones of a word. -/
def ones (w : Nat) : Nat := pc 32 w
def q1 (c : Nat) : Nat := (c / 2 &&& 85) + (c &&& 85)
def q2 (c : Nat) : Nat := (c / 4 &&& 51) + (c &&& 51)
def g1 (a : Int) : Int := wu64 (bits .and .u64 (shrI .u64 a 1) 6148914691236517205 + bits .and .u64 a 6148914691236517205)
def g2 (a : Int) : Int := wu64 (bits .and .u64 (shrI .u64 a 2) 3689348814741910323 + bits .and .u64 a 3689348814741910323)
def g3 (a : Int) : Int := bits .and .u64 (wu64 (shrI .u64 a 4 + a)) 1085102592571150095
def g4 (a : Int) : Int := wu64 (a + shrI .u64 a 8)
end Go.Proofs.YtemihnclhcobnaaGreatDoor
namespace Go.Proofs.YtemihnclhcobnaaGreatDoor
open Go.Rv
variable {β : Type}
def B (l : List UInt8) : ByteArray := ⟨l.toArray⟩
theorem B_data (s : ByteArray) : B s.data.toList = s := by cases s; simp [B]
theorem B_size (l : List UInt8) : (B l).size = l.length := by simp [B, ByteArray.size]
theorem B_inj {a b : ByteArray} (h : a.data.toList = b.data.toList) : a = b := by rw [← B_data a, ← B_data b, h]
theorem B_toList (l : List UInt8) : (B l).toList = l := Go.ByteArray.toList_mk l
theorem B_list (l : List UInt8) : (B l).data.toList = l := by simp [B]
theorem B_app (l m : List UInt8) : B l ++ B m = B (l ++ m) := by
  apply B_inj
  rw [ByteArray.toList_data_append]
  simp [B]
theorem B_ext (l : List UInt8) (a b : Nat) : (B l).extract a b = B ((l.take b).drop a) := by
  apply B_inj
  rw [ByteArray.data_extract]
  simp [B, List.drop_take, List.extract_eq_take_drop]
theorem B_nil : ByteArray.empty = B [] := rfl
theorem B_strOf (l : List Int) : strOf l = B (l.map fun n => UInt8.ofNat n.toNat) := by simp [strOf, B]
theorem B_bt (l : List UInt8) (i : Nat) (h : i < l.length) : bt (B l) (i : Int) = (l[i].toNat : Int) := by
  simp [bt, B, List.getD, List.getElem?_eq_getElem h]
theorem B_bt0 (c : UInt8) (r : List UInt8) : bt (B (c :: r)) 0 = (c.toNat : Int) := by simp [bt, B]
theorem B_tail (c : UInt8) (r : List UInt8) : (B (c :: r)).extract (Int.toNat 1) (B (c :: r)).size = B r := by
  rw [B_ext, B_size]
  simp
theorem B_lt (c : UInt8) : c.toNat < 256 := c.toNat_lt
end Go.Proofs.YtemihnclhcobnaaGreatDoor
namespace Go.Proofs.YtemihnclhcobnaaGreatDoor
open Go.Rv
variable {β : Type}
def lf (n : Nat) : Bool := (decide (97 ≤ n) && decide (n < 102)) || (n == 48 || n == 49)
def bn (n : Nat) : Bool := n == 38 || (n == 124 || n == 94)
/-- A formula at the front: its tree and what is left. -/
def pt : Nat → List UInt8 → Option (Tr × List UInt8)
  | 0, _ => none
  | _ + 1, [] => none
  | F + 1, c :: r =>
    cond (lf c.toNat) (some (.node c.toNat 0 .nil .nil, r))
      (cond (c.toNat == 33) (match pt F r with
        | some (T, r1) => some (.node 33 0 T .nil, r1)
        | none => none)
        (cond (bn c.toNat) (match pt F r with
          | some (A, r1) => match pt F r1 with
            | some (C, r2) => some (.node c.toNat 0 A C, r2)
            | none => none
          | none => none) none))
/-- A tree's text. -/
def tx : Tr → List UInt8
  | .nil => []
  | .node a _ l r => UInt8.ofNat a.toNat :: (tx l ++ tx r)
/-- Trees of formulas. -/
def wf : Tr → Prop
  | .nil => False
  | .node a b l r => b = 0 ∧ ∃ n : Nat, a = n ∧ n < 256 ∧ ((lf n = true ∧ l = .nil ∧ r = .nil) ∨ (n = 33 ∧ wf l ∧ r = .nil) ∨ (bn n = true ∧ wf l ∧ wf r))

theorem pt_wf : ∀ (F : Nat) (l : List UInt8) (T : Tr) (r : List UInt8), pt F l = some (T, r) → wf T ∧ l = tx T ++ r := by
  intro F
  induction F with
  | zero => intro l T r h; cases h
  | succ F ih =>
    intro l T r h
    cases l with
    | nil => cases h
    | cons c l =>
      simp only [pt] at h
      cases h1 : lf c.toNat with
      | true =>
        rw [h1, cond_true] at h
        cases h
        exact ⟨⟨rfl, c.toNat, rfl, B_lt c, .inl ⟨h1, rfl, rfl⟩⟩, by simp [tx]⟩
      | false =>
        rw [h1, cond_false] at h
        cases h2 : c.toNat == 33 with
        | true =>
          rw [h2, cond_true] at h
          have h2 := eq_of_beq h2
          cases h3 : pt F l with
          | none => rw [h3] at h; cases h
          | some p =>
            obtain ⟨U, r1⟩ := p
            rw [h3] at h
            cases h
            obtain ⟨k1, k2⟩ := ih _ _ _ h3
            refine ⟨⟨rfl, 33, rfl, by decide, .inr (.inl ⟨rfl, k1, rfl⟩)⟩, ?_⟩
            have : c = 33 := by rw [← UInt8.ofNat_toNat (x := c), h2]; rfl
            subst this
            simp only [tx, List.append_nil, List.cons_append]
            rw [← k2]
            rfl
        | false =>
          rw [h2, cond_false] at h
          cases h3 : bn c.toNat with
          | false => rw [h3] at h; cases h
          | true =>
            rw [h3, cond_true] at h
            cases h4 : pt F l with
            | none => rw [h4] at h; cases h
            | some p =>
              obtain ⟨U, r1⟩ := p
              rw [h4] at h
              simp only at h
              cases h5 : pt F r1 with
              | none => rw [h5] at h; cases h
              | some q =>
                obtain ⟨V, r2⟩ := q
                rw [h5] at h
                cases h
                obtain ⟨k1, k2⟩ := ih _ _ _ h4
                obtain ⟨k3, k4⟩ := ih _ _ _ h5
                refine ⟨⟨rfl, c.toNat, rfl, B_lt c, .inr (.inr ⟨h3, k1, k3⟩)⟩, ?_⟩
                simp only [tx, Int.toNat_natCast, UInt8.ofNat_toNat, List.cons_append, List.append_assoc]
                rw [← k4, ← k2]

theorem pt_tx : ∀ (T : Tr) (F : Nat) (r : List UInt8), wf T → (tx T).length ≤ F → pt F (tx T ++ r) = some (T, r) := by
  intro T
  induction T with
  | nil => intro F r h; exact h.elim
  | node a b l r ihl ihr =>
    intro F q h hF
    obtain ⟨rfl, n, rfl, hn, h⟩ := h
    have e : (UInt8.ofNat ((n : Int).toNat)).toNat = n := by simp; omega
    cases F with
    | zero => simp [tx] at hF
    | succ F =>
      simp only [tx, List.cons_append, List.append_assoc, List.length_cons, List.length_append] at hF ⊢
      simp only [pt, e]
      rcases h with ⟨h1, rfl, rfl⟩ | ⟨rfl, h1, rfl⟩ | ⟨h1, h2, h3⟩
      · rw [h1]; simp [tx]
      · rw [show lf 33 = false from rfl, show ((33 : Nat) == 33) = true from rfl]
        simp only [cond_true, cond_false, tx, List.nil_append]
        rw [ihl F q h1 (by simpa [tx] using hF)]
        rfl
      · have e1 : lf n = false := by
          simp only [bn, Bool.or_eq_true, beq_iff_eq] at h1
          rcases h1 with rfl | rfl | rfl <;> rfl
        have e2 : (n == 33) = false := by
          simp only [bn, Bool.or_eq_true, beq_iff_eq] at h1
          rcases h1 with rfl | rfl | rfl <;> rfl
        rw [e1, e2, h1]
        simp only [cond_true, cond_false]
        rw [ihl F _ h2 (by omega)]
        simp only
        rw [ihr F _ h3 (by omega)]

theorem tx_pos {T : Tr} (h : wf T) : 0 < (tx T).length := by
  cases T with
  | nil => exact h.elim
  | node a b l r => simp [tx]

theorem isLetter_nat (N n : Nat) (k : Bool → Option β) : zj100 N (n : Int) k = k (decide (97 ≤ n) && decide (n < 102)) := by
  simp only [zj100]
  by_cases h1 : 97 ≤ n
  · rw [decide_eq_true (show (n : Int) ≥ 97 by omega), decide_eq_true h1]
    simp only [cond_true, Bool.true_and]
    congr 1
    by_cases h2 : n < 102
    · rw [decide_eq_true h2, decide_eq_true (by omega)]
    · rw [decide_eq_false h2, decide_eq_false (by omega)]
  · rw [decide_eq_false (show ¬ (n : Int) ≥ 97 by omega), decide_eq_false h1]
    rfl

theorem natb (n m : Nat) : ((n : Int) == (m : Int)) = (n == m) := by
  by_cases h : n = m
  · subst h; simp
  · rw [beq_eq_false_iff_ne.2 h, beq_eq_false_iff_ne.2 (by omega)]

theorem readPart_eq (N : Nat) : ∀ (F : Nat) (l : List UInt8), l.length < F → ∀ k : Tr → ByteArray → Option β,
    zj134 N F (B l) k = match pt F l with | some (T, r) => k T (B r) | none => k .nil (B []) := by
  intro F
  induction F with
  | zero => intro l h; omega
  | succ F ih =>
    intro l hF k
    cases l with
    | nil =>
      simp only [zj134, zj133, B_toList, B_nil, pt]
      rfl
    | cons c r =>
      simp only [List.length_cons] at hF
      simp only [zj134, zj133, B_toList, B_nil, B_bt0, B_tail]
      simp only [B_size]
      rw [show ((c :: r == []) : Bool) = false from rfl]
      simp only [cond_false]
      rw [gd_true (decide_eq_true (by simp only [List.length_cons]; omega)), gd_true (decide_eq_true (by simp only [List.length_cons]; omega)), isLetter_nat]
      have hn := B_lt c
      simp only [pt]
      generalize c.toNat = n at hn ⊢
      have e48 : ((n : Int) == 48) = (n == 48) := natb n 48
      have e49 : ((n : Int) == 49) = (n == 49) := natb n 49
      have e33 : ((n : Int) == 33) = (n == 33) := natb n 33
      have e38 : ((n : Int) == 38) = (n == 38) := natb n 38
      have e124 : ((n : Int) == 124) = (n == 124) := natb n 124
      have e94 : ((n : Int) == 94) = (n == 94) := natb n 94
      rw [e48, e49, e33, e38, e124, e94]
      simp only [lf, bn]
      have bin : ∀ k' : Tr → Tr → List UInt8 → Option β, (zj134 N F (B r) fun r6 r7 => cond (Tr.isNil r6) (k .nil (B [])) (zj134 N F r7 fun r8 r9 => cond (Tr.isNil r8) (k .nil (B [])) (k (.node n 0 r6 r8) r9))) =
          match (match pt F r with
          | some (A, r1) => (match pt F r1 with
            | some (C, r2) => some (Tr.node n 0 A C, r2)
            | none => none)
          | none => none) with | some (T, r) => k T (B r) | none => k .nil (B []) := by
        intro _
        rw [ih r (by omega)]
        cases h1 : pt F r with
        | none => rfl
        | some p =>
          obtain ⟨A, r1⟩ := p
          obtain ⟨w1, w2⟩ := pt_wf _ _ _ _ h1
          have hl : r1.length < F := by rw [w2] at hF; simp at hF; omega
          simp only
          have hA : Tr.isNil A = false := by cases A with | nil => exact w1.elim | node => rfl
          rw [hA, cond_false, ih r1 hl]
          cases h2 : pt F r1 with
          | none => rfl
          | some q =>
            obtain ⟨C, r2⟩ := q
            obtain ⟨w3, w4⟩ := pt_wf _ _ _ _ h2
            have hC : Tr.isNil C = false := by cases C with | nil => exact w3.elim | node => rfl
            simp only
            rw [hC, cond_false]
      by_cases h1 : n = 33
      · subst h1
        simp
        rw [ih r (by omega)]
        cases h1 : pt F r with
        | none => rfl
        | some p =>
          obtain ⟨A, r1⟩ := p
          obtain ⟨w1, w2⟩ := pt_wf _ _ _ _ h1
          have hA : Tr.isNil A = false := by cases A with | nil => exact w1.elim | node => rfl
          simp only
          rw [hA, cond_false]
      · have f1 := beq_eq_false_iff_ne.2 h1
        by_cases h2 : n = 38
        · subst h2; simpa using bin fun _ _ _ => none
        · have f2 := beq_eq_false_iff_ne.2 h2
          by_cases h3 : n = 124
          · subst h3; simpa using bin fun _ _ _ => none
          · have f3 := beq_eq_false_iff_ne.2 h3
            by_cases h4 : n = 94
            · subst h4; simpa using bin fun _ _ _ => none
            · have f4 := beq_eq_false_iff_ne.2 h4
              rw [f1, f2, f3, f4]
              cases (decide (97 ≤ n) && decide (n < 102)) <;> cases h5 : n == 48 <;> cases h6 : n == 49 <;> simp
end Go.Proofs.YtemihnclhcobnaaGreatDoor
namespace Go.Proofs.YtemihnclhcobnaaGreatDoor
open Go.Rv
variable {β : Type}
theorem drop_at {α : Type} (l : List α) (i : Nat) (h : i < l.length) : l.drop i = l[i] :: l.drop (i + 1) := List.drop_eq_getElem_cons h
theorem suffix_at {α : Type} {l m r : List α} {i : Nat} (h : l.drop i = m ++ r) (hi : i ≤ l.length) : l.drop (l.length - r.length) = r ∧ l.length - r.length ≤ l.length ∧ i + m.length = l.length - r.length ∧ r.length ≤ l.length := by
  have e : l.length - i = m.length + r.length := by rw [← List.length_drop, h, List.length_append]
  have e2 : l.length - r.length = i + m.length := by omega
  refine ⟨?_, by omega, by omega, by omega⟩
  rw [e2, ← List.drop_drop, h]
  simp

theorem l5End_eq (N : Nat) (l : List UInt8) (hl : l.length ≤ 1048576) : ∀ (F i : Nat), l.length - i < F → i ≤ l.length → ∀ k : Int → Option β,
    zj53 N F (B l) (i : Int) k = match pt F (l.drop i) with | some (_, r) => k ((l.length - r.length : Nat) : Int) | none => k (-1) := by
  intro F
  induction F with
  | zero => intro i h; omega
  | succ F ih =>
    intro i hF hi k
    simp only [zj53, zj52, B_size]
    rcases Nat.lt_or_ge i l.length with hlt | hge
    · rw [decide_eq_false (show ¬ (i : Int) ≥ (l.length : Int) by omega), B_bt l i hlt]
      simp only [cond_false]
      rw [gd_true (decide_eq_true (by omega)), gd_true (decide_eq_true (by omega))]
      rw [show w64 ((i : Int) + 1) = ((i + 1 : Nat) : Int) by rw [w64_id] <;> omega]
      rw [drop_at l i hlt]
      have hlen : (l.drop (i + 1)).length = l.length - (i + 1) := List.length_drop
      simp only [pt]
      have hn := B_lt l[i]
      generalize l[i].toNat = n at hn ⊢
      have bin : ∀ d : Int, (zj53 N F (B l) ((i + 1 : Nat) : Int) fun r4 => cond (decide (r4 < 0)) (k (-1)) (zj53 N F (B l) r4 fun r5 => k r5)) =
          match (match pt F (l.drop (i + 1)) with
          | some (A, r1) => (match pt F r1 with
            | some (C, r2) => some (Tr.node d 0 A C, r2)
            | none => none)
          | none => none) with | some (_, r) => k ((l.length - r.length : Nat) : Int) | none => k (-1) := by
        intro d
        rw [ih (i + 1) (by omega) (by omega)]
        cases h1 : pt F (l.drop (i + 1)) with
        | none => rfl
        | some p =>
          obtain ⟨A, r1⟩ := p
          obtain ⟨w1, w2⟩ := pt_wf _ _ _ _ h1
          obtain ⟨s1, s2, s3, s4⟩ := suffix_at w2 (by omega)
          simp only
          rw [decide_eq_false (by omega), cond_false, ih _ (by omega) s2, s1]
          cases h2 : pt F r1 <;> rfl
      have g : ∀ m : Nat, ((n : Int) == (m : Int)) = (n == m) := natb n
      have g97 := g 97; have g98 := g 98; have g99 := g 99; have g100 := g 100; have g101 := g 101; have g48 := g 48
      have g49 := g 49; have g33 := g 33; have g38 := g 38; have g124 := g 124; have g94 := g 94
      simp only [Int.cast_ofNat_Int] at g97 g98 g99 g100 g101 g48 g49 g33 g38 g124 g94
      simp only [g97, g98, g99, g100, g101, g48, g49, g33, g38, g124, g94]
      have leaf : (i + 1 : Nat) = l.length - (l.drop (i + 1)).length := by omega
      by_cases hlf : lf n = true
      · rw [hlf]
        simp only [cond_true]
        rw [← leaf]
        simp only [lf, Bool.or_eq_true, Bool.and_eq_true, decide_eq_true_eq, beq_iff_eq] at hlf
        have : n = 97 ∨ n = 98 ∨ n = 99 ∨ n = 100 ∨ n = 101 ∨ n = 48 ∨ n = 49 := by omega
        rcases this with rfl | rfl | rfl | rfl | rfl | rfl | rfl <;> rfl
      · have hlf := eq_false_of_ne_true hlf
        rw [hlf]
        simp only [lf, Bool.or_eq_false_iff, Bool.and_eq_false_iff, decide_eq_false_iff_not, beq_eq_false_iff_ne] at hlf
        rw [beq_eq_false_iff_ne.2 (show n ≠ 97 by omega), beq_eq_false_iff_ne.2 (show n ≠ 98 by omega), beq_eq_false_iff_ne.2 (show n ≠ 99 by omega), beq_eq_false_iff_ne.2 (show n ≠ 100 by omega), beq_eq_false_iff_ne.2 (show n ≠ 101 by omega), beq_eq_false_iff_ne.2 hlf.2.1, beq_eq_false_iff_ne.2 hlf.2.2]
        simp only [cond_false]
        by_cases e8 : n = 33
        · rw [e8, show ((33 : Nat) == 33) = true from rfl]
          simp only [cond_true]
          rw [ih (i + 1) (by omega) (by omega)]
          cases pt F (l.drop (i + 1)) <;> rfl
        rw [beq_eq_false_iff_ne.2 e8]
        simp only [cond_false, bn]
        by_cases e9 : n = 38
        · rw [e9, show ((38 : Nat) == 38) = true from rfl]; exact bin 38
        rw [beq_eq_false_iff_ne.2 e9]
        by_cases e10 : n = 124
        · rw [e10, show ((124 : Nat) == 124) = true from rfl]; exact bin 124
        rw [beq_eq_false_iff_ne.2 e10]
        by_cases e11 : n = 94
        · rw [e11, show ((94 : Nat) == 94) = true from rfl]; exact bin 94
        rw [beq_eq_false_iff_ne.2 e11]
        rfl
    · rw [decide_eq_true (show (i : Int) ≥ (l.length : Int) by omega), cond_true, List.drop_eq_nil_of_le hge]
      rfl

theorem spec_IsFormula_eq (N : Nat) (hN : 1048576 < N) (l : List UInt8) (k : Bool → Option β) : zj55 N (B l) k = k (decide (l.length ≤ 60) && (match pt 1048577 l with | some (_, []) => true | _ => false)) := by
  simp only [zj55, B_size]
  by_cases h : l.length ≤ 60
  · rw [decide_eq_true (show (l.length : Int) ≤ 60 by omega), decide_eq_true h]
    simp only [cond_true, Bool.true_and]
    by_cases h0 : l.length = 0
    · have : l = [] := List.eq_nil_of_length_eq_zero h0
      subst this
      rfl
    · rw [decide_eq_true (show (l.length : Int) > 0 by omega), cond_true]
      show zj53 N N (B l) ((0 : Nat) : Int) _ = _
      rw [l5End_eq N l (by omega) N 0 (by omega) (by omega), List.drop_zero]
      have hfu : pt N l = pt 1048577 l := by
        cases h1 : pt N l with
        | some p =>
          obtain ⟨T, r⟩ := p
          obtain ⟨w1, w2⟩ := pt_wf _ _ _ _ h1
          rw [w2]
          rw [pt_tx T _ r w1]
          rw [w2] at h; simp at h; omega
        | none =>
          cases h2 : pt 1048577 l with
          | none => rfl
          | some p =>
            obtain ⟨T, r⟩ := p
            obtain ⟨w1, w2⟩ := pt_wf _ _ _ _ h2
            rw [w2, pt_tx T _ r w1] at h1
            · cases h1
            · rw [w2] at h; simp at h; omega
      rw [hfu]
      cases h1 : pt 1048577 l with
      | none => simp; rfl
      | some p =>
        obtain ⟨T, r⟩ := p
        obtain ⟨w1, w2⟩ := pt_wf _ _ _ _ h1
        cases r with
        | nil => simp
        | cons c r =>
          simp only [List.length_cons]
          congr 1
          refine beq_eq_false_iff_ne.2 ?_
          have : (tx T ++ c :: r).length = l.length := by rw [← w2]
          simp at this
          omega
  · rw [decide_eq_false (show ¬ (l.length : Int) ≤ 60 by omega), decide_eq_false h]
    rfl
end Go.Proofs.YtemihnclhcobnaaGreatDoor
namespace Go.Proofs.YtemihnclhcobnaaGreatDoor
open Go.Rv
variable {β : Type}
def oth (n : Nat) : Nat := cond (n == 38) 124 (cond (n == 124) 38 (cond (n == 48) 49 (cond (n == 49) 48 n)))
def lt5 (n : Nat) : Bool := decide (97 ≤ n) && decide (n < 102)
def pu : Tr → Bool → Tr
  | .nil, _ => .nil
  | .node a b l r, neg =>
    cond (a == 33) (pu l (!neg))
      (cond (lt5 a.toNat) (cond neg (.node 33 0 (.node a b l r) .nil) (.node a b l r))
        (cond l.isNil (cond neg (.node (oth a.toNat) 0 .nil .nil) (.node a b l r))
          (cond (a == 94) (.node 94 0 (pu l neg) (pu r false))
            (cond neg (.node (oth a.toNat) 0 (pu l neg) (pu r neg)) (.node a 0 (pu l neg) (pu r neg))))))

theorem isNil_node (a b : Int) (l r : Tr) : Tr.isNil (.node a b l r) = false := rfl
theorem isNil_nil : Tr.isNil .nil = true := rfl
theorem wf_nonnil {T : Tr} (h : wf T) : T.isNil = false := by
  cases T with
  | nil => exact h.elim
  | node => rfl
theorem bn_cases {n : Nat} (h : bn n = true) : n = 38 ∨ n = 124 ∨ n = 94 := by
  simpa [bn] using h
theorem lf_cases {n : Nat} (h : lf n = true) : lt5 n = true ∨ (lt5 n = false ∧ (n = 48 ∨ n = 49)) := by
  unfold lf at h
  cases h1 : lt5 n with
  | true => exact .inl rfl
  | false =>
    unfold lt5 at h1
    rw [h1] at h
    exact .inr ⟨rfl, by simpa using h⟩
theorem isLeaf_eq (N : Nat) (a b : Int) (l r : Tr) (k : Bool → Option β) : zj137 N (.node a b l r) k = k l.isNil := rfl

/-- The answer. -/
def pushed (l : List UInt8) : Option (List UInt8) :=
  cond (decide (l.length ≤ 60)) (match pt 1048577 l with
    | some (T, []) => cond (decide ((tx (pu T false)).length ≤ 60)) (some (tx (pu T false))) none
    | _ => none) none
end Go.Proofs.YtemihnclhcobnaaGreatDoor
namespace Go.Proofs.YtemihnclhcobnaaGreatDoor
open Go.Rv
variable {β : Type}
/-- A loop that counts up. -/
theorem loop_st (g : Nat → Nat → Option β) (m : Nat) (r : Option β) (hs : ∀ F i, i < m → g (F + 1) i = g F (i + 1)) (he : ∀ F, g (F + 1) m = r) :
    ∀ (F i : Nat), i ≤ m → m - i < F → g F i = r := by
  intro F
  induction F with
  | zero => intro i _ h; omega
  | succ F ih =>
    intro i hi hF
    rcases Nat.lt_or_ge i m with h | h
    · rw [hs F i h]; exact ih (i + 1) h (by omega)
    · have : i = m := by omega
      subst this; exact he F

def sg (m : Nat) : Int := if m % 2 = 1 then -1 else 1
def bw (w x : Nat) : Nat := if w.testBit x then 1 else 0
theorem bw_le (w x : Nat) : bw w x ≤ 1 := by unfold bw; split <;> omega

/-- The term of a set and an input. -/
def tm (w u x : Nat) : Int := sg (bw w x) * sg (ones (u &&& x))
theorem isTn {n w : Nat} (hn : n ≤ 5) (hw : w < 2 ^ 2 ^ n) : isT (n : Int) (w : Int) = true := by
  have h4 : ((w : Nat) : Int) < 2 ^ 2 ^ n := by exact_mod_cast hw
  simp only [isT, Bool.and_eq_true, decide_eq_true_eq, Int.toNat_natCast]
  exact ⟨⟨⟨by omega, by omega⟩, by omega⟩, h4⟩
theorem w_small {n w : Nat} (hn : n ≤ 5) (hw : w < 2 ^ 2 ^ n) : w < 4294967296 :=
  Nat.lt_of_lt_of_le hw (Nat.le_trans (Nat.pow_le_pow_right (by decide) (size_le hn)) (by decide))

theorem wr_mid {α : Type} (p : List α) (y z : α) (r : List α) : wr (p ++ y :: r) (p.length : Int) z = p ++ z :: r := by
  simp [wr]

theorem impl_Table_size_eq (N n : Nat) (w : Int) (hn : n ≤ 5) (k : Int → Option β) : zj66 N (n : Int) w k = k ((2 ^ n : Nat) : Int) := by
  unfold zj66
  rw [gd_true (decide_eq_true (by omega)), shl_one n (by omega)]
theorem impl_Table_at_eq (N w x : Nat) (n : Int) (hw : w < 4294967296) (k : Int → Option β) : zj67 N n (w : Int) (x : Int) k = k (bw w x : Int) := by
  unfold zj67
  rw [gd_true (decide_eq_true (by omega)), bit_at w x (by omega)]
  rfl

/-! ### Energies -/
def en (l z : List Int) : Nat → List Int
  | 0 => z
  | i + 1 => wr (en l z i) (ones i : Int) (w64 (rd 0 (en l z i) (ones i : Int) + w64 (rd 0 l (i : Int) * rd 0 l (i : Int))))
/-! ### Nonlinearity -/
theorem two_pos (n : Nat) : 0 < 2 ^ n := Nat.pow_pos (by decide)
/-! ### Immunity -/
/-! ### Rejects -/
end Go.Proofs.YtemihnclhcobnaaGreatDoor
namespace Go.Proofs.YtemihnclhcobnaaGreatDoor
open Go.Rv
variable {β : Type}
theorem w8_small (n : Nat) (h : n < 256) : w8 (n : Int) = n := by
  have := IntKind.wrap_u8 (n : Int)
  show IntKind.wrap .u8 (n : Int) = n
  rw [this]
  omega

/-! ### Lists of numbers -/
end Go.Proofs.YtemihnclhcobnaaGreatDoor
namespace Go.Proofs.YtemihnclhcobnaaGreatDoor
open Go.Rv
variable {β : Type}
theorem bw_eq0 (w x : Nat) : ((bw w x : Int) == 0) = !w.testBit x := by unfold bw; cases w.testBit x <;> rfl
theorem bw_eq1 (w x : Nat) : ((bw w x : Int) == 1) = w.testBit x := by unfold bw; cases w.testBit x <;> rfl
theorem bit_w (w x : Nat) (hw : w < 9223372036854775808) : bits .and .i64 (shrI .i64 (w : Int) (x : Int)) 1 = (bw w x : Int) := bit_at w x hw

/-- That all below a number are such. -/
def allTo (p : Nat → Bool) : Nat → Bool
  | 0 => true
  | m + 1 => allTo p m && p m
theorem allTo_spec {p : Nat → Bool} : ∀ {m : Nat}, allTo p m = true → ∀ i, i < m → p i = true
  | 0, _, i, h => by omega
  | m + 1, h, i, hi => by
    simp only [allTo, Bool.and_eq_true] at h
    rcases Nat.lt_or_ge i m with h1 | h1
    · exact allTo_spec h.1 i h1
    · have : i = m := by omega
      subst this; exact h.2
theorem allTo_of {p : Nat → Bool} : ∀ {m : Nat}, (∀ i, i < m → p i = true) → allTo p m = true
  | 0, _ => rfl
  | m + 1, h => by
    simp only [allTo, Bool.and_eq_true]
    exact ⟨allTo_of fun i hi => h i (by omega), h m (by omega)⟩
/-- A loop that leaves at the first that is not such. -/
theorem loop_all (g : Nat → Nat → Option β) (p : Nat → Bool) (m : Nat) (r0 r1 : Option β) (hs : ∀ F i, i < m → g (F + 1) i = cond (p i) (g F (i + 1)) r0) (he : ∀ F, g (F + 1) m = r1) :
    ∀ F, m < F → g F 0 = cond (allTo p m) r1 r0 := by
  have key : ∀ (F i : Nat), i ≤ m → m - i < F → allTo p i = true → g F i = cond (allTo p m) r1 r0 := by
    intro F
    induction F with
    | zero => intro i _ h; omega
    | succ F ih =>
      intro i hi hF ha
      rcases Nat.lt_or_ge i m with h | h
      · rw [hs F i h]
        cases hp : p i with
        | true => exact ih (i + 1) h (by omega) (by simp only [allTo, ha, hp, Bool.and_self])
        | false =>
          have : allTo p m = false := by
            cases hm : allTo p m with
            | false => rfl
            | true => rw [allTo_spec hm i h] at hp; cases hp
          rw [this]; rfl
      · have : i = m := by omega
        subst this
        rw [he, ha]; rfl
  intro F hF
  exact key F 0 (Nat.zero_le _) (by omega) rfl

/-! ### Monotone tables and games -/
def R (w n i b : Nat) : Nat := tabw (fun x => w.testBit (ins x i b)) (2 ^ (n - 1))
def mono (w n i : Nat) : Bool := (R w n i 0 &&& R w n i 1) == R w n i 0
/-! ### Minimal points -/
end Go.Proofs.YtemihnclhcobnaaGreatDoor
namespace Go.Proofs.YtemihnclhcobnaaGreatDoor
open Go.Rv
variable {β : Type}
def ltr (n : Nat) : Bool := decide (97 ≤ n) && decide (n < 102)
/-- A tree at the front, with no letter of a set: the tree and what is left. -/
def tt : Nat → List UInt8 → Nat → Option (Tr × List UInt8)
  | 0, _, _ => none
  | _ + 1, [], _ => none
  | F + 1, c :: r, m =>
    cond (c.toNat == 48 || c.toNat == 49) (some (.node c.toNat 0 .nil .nil, r))
      (cond (ltr c.toNat && !m.testBit (c.toNat - 97)) (match tt F r (m ||| 2 ^ (c.toNat - 97)) with
        | some (A, r1) => match tt F r1 (m ||| 2 ^ (c.toNat - 97)) with
          | some (C, r2) => some (.node c.toNat 0 A C, r2)
          | none => none
        | none => none) none)
theorem mask_small : ∀ m, m < 32 → ∀ j, j < 5 → m ||| 2 ^ j < 32 ∧ (m.testBit j = true ∨ ones (m ||| 2 ^ j) = ones m + 1) ∧ ones m ≤ 5 := by decide +kernel
theorem tt_spec : ∀ (F : Nat) (l : List UInt8) (m : Nat) (T : Tr) (r : List UInt8), m < 32 → tt F l m = some (T, r) → T.isNil = false ∧ l = tx T ++ r ∧ (tx T).length + 1 ≤ 2 ^ (6 - ones m) := by
  intro F
  induction F with
  | zero => intro l m T r _ h; cases h
  | succ F ih =>
    intro l m T r hm h
    cases l with
    | nil => cases h
    | cons c l =>
      have ho : ones m ≤ 5 := (mask_small m hm 0 (by decide)).2.2
      simp only [tt] at h
      cases h1 : (c.toNat == 48 || c.toNat == 49) with
      | true =>
        rw [h1, cond_true] at h
        cases h
        refine ⟨rfl, by simp [tx], ?_⟩
        have : 2 ^ 1 ≤ 2 ^ (6 - ones m) := Nat.pow_le_pow_right (by decide) (by omega)
        simpa [tx] using this
      | false =>
        rw [h1, cond_false] at h
        cases h2 : (ltr c.toNat && !m.testBit (c.toNat - 97)) with
        | false => rw [h2] at h; cases h
        | true =>
          rw [h2, cond_true] at h
          simp only [ltr, Bool.and_eq_true, decide_eq_true_eq, Bool.not_eq_true'] at h2
          obtain ⟨m1, m2, _⟩ := mask_small m hm (c.toNat - 97) (by omega)
          have m2 : ones (m ||| 2 ^ (c.toNat - 97)) = ones m + 1 := by
            rcases m2 with m2 | m2
            · rw [h2.2] at m2; cases m2
            · exact m2
          cases h4 : tt F l (m ||| 2 ^ (c.toNat - 97)) with
          | none => rw [h4] at h; cases h
          | some p =>
            obtain ⟨U, r1⟩ := p
            rw [h4] at h
            simp only at h
            cases h5 : tt F r1 (m ||| 2 ^ (c.toNat - 97)) with
            | none => rw [h5] at h; cases h
            | some q =>
              obtain ⟨V, r2⟩ := q
              rw [h5] at h
              cases h
              obtain ⟨_, k2, k3⟩ := ih _ _ _ _ m1 h4
              obtain ⟨_, k4, k5⟩ := ih _ _ _ _ m1 h5
              refine ⟨rfl, ?_, ?_⟩
              · simp only [tx, Int.toNat_natCast, UInt8.ofNat_toNat, List.cons_append, List.append_assoc]
                rw [← k4, ← k2]
              · rw [m2] at k3 k5
                have e : 2 ^ (6 - ones m) = 2 * 2 ^ (6 - (ones m + 1)) := by
                  rw [show 6 - ones m = (6 - (ones m + 1)) + 1 by omega, Nat.pow_succ]; omega
                simp only [tx, List.length_cons, List.length_append]
                omega

theorem variable_eq (N n : Nat) (h1 : 97 ≤ n) (h2 : n < 102) (k : Int → Int → Option β) : zj82 N (n : Int) k = k ((n - 97 : Nat) : Int) n := by
  unfold zj82
  have := w8_small (n - 97) (by omega)
  rw [show (n : Int) - 97 = ((n - 97 : Nat) : Int) by omega, this, w64_nat _ (by omega)]
theorem readTree_eq (N : Nat) : ∀ (F : Nat) (l : List UInt8) (m : Nat), l.length < F → m < 32 → ∀ k : Tr → ByteArray → Option β,
    zj125 N F (B l) (m : Int) k = match tt F l m with | some (T, r) => k T (B r) | none => k .nil (B []) := by
  intro F
  induction F with
  | zero => intro l m h; omega
  | succ F ih =>
    intro l m hF hm k
    cases l with
    | nil =>
      simp only [zj125, zj124, B_toList, B_nil, tt]
      rfl
    | cons c r =>
      simp only [List.length_cons] at hF
      simp only [zj125, zj124, B_toList, B_nil, B_bt0, B_tail]
      simp only [B_size]
      rw [show ((c :: r == []) : Bool) = false from rfl]
      simp only [cond_false]
      rw [gd_true (decide_eq_true (by simp only [List.length_cons]; omega)), gd_true (decide_eq_true (by simp only [List.length_cons]; omega)), isLetter_nat]
      have hn := B_lt c
      simp only [tt]
      generalize c.toNat = n at hn ⊢
      have e48 : ((n : Int) == 48) = (n == 48) := natb n 48
      have e49 : ((n : Int) == 49) = (n == 49) := natb n 49
      rw [e48, e49]
      cases h1 : n == 48 with
      | true => rfl
      | false =>
        cases h2 : n == 49 with
        | true => rfl
        | false =>
          simp only [cond_false, Bool.or_self]
          have el : (decide (97 ≤ n) && decide (n < 102)) = ltr n := rfl
          rw [el]
          cases h3 : ltr n with
          | false => rfl
          | true =>
            have h3' := h3
            simp only [ltr, Bool.and_eq_true, decide_eq_true_eq] at h3'
            simp only [Bool.not_true, cond_false, Bool.true_and]
            rw [variable_eq N n h3'.1 h3'.2, gd_true (decide_eq_true (Int.natCast_nonneg _)), bit_w m _ (by omega), bw_eq1]
            cases h4 : m.testBit (n - 97) with
            | true => rfl
            | false =>
              obtain ⟨m1, _, _⟩ := mask_small m hm (n - 97) (by omega)
              have hp : 2 ^ (n - 97) < 2 ^ 5 := Nat.pow_lt_pow_right (by decide) (by omega)
              simp only [cond_false, Bool.not_false, cond_true]
              rw [variable_eq N n h3'.1 h3'.2, gd_true (decide_eq_true (Int.natCast_nonneg _)), shl_one _ (by omega), bOr m _ (by omega) (by omega), ih r _ (by omega) m1]
              cases h5 : tt F r (m ||| 2 ^ (n - 97)) with
              | none => rfl
              | some p =>
                obtain ⟨A, r1⟩ := p
                obtain ⟨a1, a2, _⟩ := tt_spec _ _ _ _ _ m1 h5
                have hl : r1.length < F := by rw [a2] at hF; simp at hF; omega
                simp only
                rw [a1, cond_false, ih r1 _ hl m1]
                cases h6 : tt F r1 (m ||| 2 ^ (n - 97)) with
                | none => rfl
                | some q =>
                  obtain ⟨C, r2⟩ := q
                  obtain ⟨b1, _, _⟩ := tt_spec _ _ _ _ _ m1 h6
                  simp only
                  rw [b1, cond_false]
theorem l7End_eq (N : Nat) (l : List UInt8) (hl : l.length ≤ 1048576) : ∀ (F i m : Nat), l.length - i < F → i ≤ l.length → m < 32 → ∀ k : Int → Option β,
    zj38 N F (B l) (i : Int) (m : Int) k = match tt F (l.drop i) m with | some (_, r) => k ((l.length - r.length : Nat) : Int) | none => k (-1) := by
  intro F
  induction F with
  | zero => intro i m h; omega
  | succ F ih =>
    intro i m hF hi hm k
    simp only [zj38, zj37, B_size]
    rcases Nat.lt_or_ge i l.length with hlt | hge
    · rw [decide_eq_false (show ¬ (i : Int) ≥ (l.length : Int) by omega), B_bt l i hlt, drop_at l i hlt]
      have hlen : (l.drop (i + 1)).length = l.length - (i + 1) := List.length_drop
      have g1 : decide ((0 : Int) ≤ (i : Int)) = true := decide_eq_true (by omega)
      have g2 : decide ((i : Int) < (l.length : Int)) = true := decide_eq_true (by omega)
      simp only [cond_false, g1, g2, gd, cond_true]
      rw [show w64 ((i : Int) + 1) = ((i + 1 : Nat) : Int) by rw [w64_id] <;> omega]
      have leaf : (i + 1 : Nat) = l.length - (l.drop (i + 1)).length := by omega
      have hn := B_lt l[i]
      simp only [tt]
      generalize l[i].toNat = n at hn ⊢
      have e48 : ((n : Int) == 48) = (n == 48) := natb n 48
      have e49 : ((n : Int) == 49) = (n == 49) := natb n 49
      rw [e48, e49]
      cases h1 : n == 48 with
      | true =>
        simp only [cond_true, Bool.true_or]
        rw [← leaf]
      | false =>
        cases h2 : n == 49 with
        | true =>
          simp only [cond_true, cond_false, Bool.or_true]
          rw [← leaf]
        | false =>
          simp only [cond_false, Bool.or_self]
          rw [show w64 (w64 (n : Int) - 97) = (n : Int) - 97 by rw [w64_id (x := (n : Int)) (by omega) (by omega), w64_id (by omega) (by omega)], spec_l1In_eq]
          have el : (decide ((0 : Int) ≤ (n : Int) - 97) && decide ((n : Int) - 97 ≤ 4)) = ltr n := by
            unfold ltr
            congr 1
            · by_cases h : 97 ≤ n
              · rw [decide_eq_true h, decide_eq_true (by omega)]
              · rw [decide_eq_false h, decide_eq_false (by omega)]
            · by_cases h : n < 102
              · rw [decide_eq_true h, decide_eq_true (by omega)]
              · rw [decide_eq_false h, decide_eq_false (by omega)]
          rw [el]
          cases h3 : ltr n with
          | false => rfl
          | true =>
            have h3' := h3
            simp only [ltr, Bool.and_eq_true, decide_eq_true_eq] at h3'
            simp only [Bool.not_true, cond_false, Bool.true_and]
            rw [show (n : Int) - 97 = ((n - 97 : Nat) : Int) by omega, decide_eq_true (Int.natCast_nonneg (n - 97)), bit_w m _ (by omega), bw_eq1]
            simp only [cond_true]
            cases h4 : m.testBit (n - 97) with
            | true => rfl
            | false =>
              obtain ⟨m1, _, _⟩ := mask_small m hm (n - 97) (by omega)
              have hp : 2 ^ (n - 97) < 2 ^ 5 := Nat.pow_lt_pow_right (by decide) (by omega)
              simp only [cond_false, Bool.not_false, cond_true]
              rw [shl_one _ (by omega), bOr m _ (by omega) (by omega), ih (i + 1) _ (by omega) (by omega) m1]
              cases h5 : tt F (l.drop (i + 1)) (m ||| 2 ^ (n - 97)) with
              | none => rfl
              | some p =>
                obtain ⟨A, r1⟩ := p
                obtain ⟨_, a2, _⟩ := tt_spec _ _ _ _ _ m1 h5
                obtain ⟨s1, s2, s3, s4⟩ := suffix_at a2 (by omega)
                simp only
                rw [decide_eq_false (by omega), cond_false, ih _ _ (by omega) s2 m1, s1]
                cases tt F r1 (m ||| 2 ^ (n - 97)) <;> rfl
    · rw [decide_eq_true (show (i : Int) ≥ (l.length : Int) by omega), cond_true, List.drop_eq_nil_of_le hge]
      rfl

def isTree (N : Nat) (l : List UInt8) : Bool := match tt N l 0 with | some (_, []) => true | _ => false
theorem isTree_len (N : Nat) (l : List UInt8) (h : isTree N l = true) : l.length ≤ 63 := by
  unfold isTree at h
  split at h
  · rename_i T hp
    obtain ⟨_, a2, a3⟩ := tt_spec _ _ _ _ _ (by decide) hp
    have e : 2 ^ (6 - ones 0) = 64 := by decide
    rw [e] at a3
    rw [a2, List.append_nil]; omega
  · cases h
theorem spec_IsTree_eq (N : Nat) (hN : 1048576 < N) (l : List UInt8) (hl : l.length ≤ 1048576) (k : Bool → Option β) : zj40 N (B l) k = k (isTree N l) := by
  unfold zj40
  rw [B_size]
  by_cases h : l.length ≤ 63
  · rw [decide_eq_true (show (l.length : Int) ≤ 63 by omega), cond_true]
    by_cases h0 : l.length = 0
    · have : l = [] := List.eq_nil_of_length_eq_zero h0
      subst this
      obtain ⟨M, rfl⟩ : ∃ M, N = M + 1 := ⟨N - 1, by omega⟩
      rfl
    · rw [decide_eq_true (show (l.length : Int) > 0 by omega), cond_true]
      have := fun k => l7End_eq (β := β) N l hl N 0 0 (by omega) (by omega) (by decide) k
      simp only [Int.natCast_zero, List.drop_zero] at this
      unfold zj39 isTree
      rw [this]
      cases hp : tt N l 0 with
      | none => exact congrArg k (beq_eq_false_iff_ne.2 (by omega))
      | some p =>
        obtain ⟨T, r⟩ := p
        obtain ⟨_, a2, _⟩ := tt_spec _ _ _ _ _ (by decide) hp
        cases r with
        | nil => simp
        | cons c r =>
          simp only [List.length_cons]
          congr 1
          refine beq_eq_false_iff_ne.2 ?_
          have : (tx T ++ c :: r).length = l.length := by rw [← a2]
          simp at this
          omega
  · rw [decide_eq_false (show ¬ (l.length : Int) ≤ 63 by omega), cond_false]
    cases ht : isTree N l with
    | false => rfl
    | true => exact absurd (isTree_len N l ht) h
end Go.Proofs.YtemihnclhcobnaaGreatDoor
namespace Go.Proofs.YtemihnclhcobnaaGreatDoor
open Go.Rv
variable {β : Type}
/-! ### Formulas -/
theorem pt_fu (N : Nat) (hN : 1048576 < N) (l : List UInt8) (h60 : l.length ≤ 60) : pt N l = pt 1048577 l := by
  cases h1 : pt N l with
  | some p =>
    obtain ⟨T, r⟩ := p
    obtain ⟨w1, w2⟩ := pt_wf _ _ _ _ h1
    rw [w2, pt_tx T _ r w1]
    rw [w2] at h60; simp at h60; omega
  | none =>
    cases h2 : pt 1048577 l with
    | none => rfl
    | some p =>
      obtain ⟨T, r⟩ := p
      obtain ⟨w1, w2⟩ := pt_wf _ _ _ _ h2
      rw [w2, pt_tx T _ r w1] at h1
      · cases h1
      · rw [w2] at h60; simp at h60; omega
def isForm (l : List UInt8) : Bool := decide (l.length ≤ 60) && (match pt 1048577 l with | some (_, []) => true | _ => false)
theorem spec_IsForm_eq (N : Nat) (hN : 1048576 < N) (l : List UInt8) (k : Bool → Option β) : zj55 N (B l) k = k (isForm l) := spec_IsFormula_eq N hN l k
/-! ### Tables -/
def tbits (w m : Nat) : List UInt8 := (List.range m).map fun x => if w.testBit x then 49 else 48
theorem tbits_len (w m : Nat) : (tbits w m).length = m := by simp [tbits]
def ibits (w m : Nat) : List Int := (List.range m).map fun x => 48 + (bw w x : Int)
theorem ibits_len (w m : Nat) : (ibits w m).length = m := by simp [ibits]
theorem ibits_succ (w m : Nat) : ibits w (m + 1) = ibits w m ++ [48 + (bw w m : Int)] := by simp [ibits, List.range_succ]
theorem impl_FormatTable_n (N n w : Nat) (hN : 64 < N) (hn : n ≤ 5) (hw : w < 2 ^ 2 ^ n) (k : ByteArray → Option β) : zj96 N (n : Int) (w : Int) k = k (B (tbits w (2 ^ n))) := by
  have hw' := w_small hn hw
  have hs := size_le hn
  have hz : (0 : Int) ≤ ((2 ^ n : Nat) : Int) := Int.natCast_nonneg _
  unfold zj96
  rw [impl_IsTable_eq N _ _ (by omega), isTn hn hw, Bool.not_true, cond_false, impl_Table_size_eq N n _ hn, gd_true (decide_eq_true (by omega)), gd_true (decide_eq_true (by omega)), gd_true (decide_eq_true (by omega)), Int.toNat_natCast, List.length_replicate]
  have key := loop_st (fun F x => zj95 N F ((2 ^ n : Nat) : Int) (x : Int) (n : Int) (w : Int) (ibits w x ++ List.replicate (2 ^ n - x) 0) fun e => k (strOf e)) (2 ^ n) (k (B (tbits w (2 ^ n)))) (fun F x hx => ?_) (fun F => ?_) N 0 (by omega) (by omega)
  · simpa [ibits] using key
  · simp only [zj95, zj94]
    have hb := bw_le w x
    rw [decide_eq_true (by omega), cond_true, impl_Table_at_eq N w x _ hw', gd_true (decide_eq_true (by omega)), gd_true (decide_eq_true (by simp [ibits_len]; omega)), w64_succ x (by omega)]
    rw [w8_small _ (by omega), show (48 : Int) + (bw w x : Int) = ((48 + bw w x : Nat) : Int) by omega, w8_small _ (by omega), show 2 ^ n - x = (2 ^ n - (x + 1)) + 1 by omega, List.replicate_succ, ibits_succ]
    have e := wr_mid (ibits w x) (0 : Int) ((48 + bw w x : Nat) : Int) (List.replicate (2 ^ n - (x + 1)) 0)
    rw [ibits_len] at e
    rw [e]
    simp
  · simp only [zj95, zj94]
    rw [decide_eq_false (by omega), cond_false]
    congr 1
    rw [B_strOf, Nat.sub_self, List.replicate_zero, List.append_nil]
    congr 1
    unfold ibits tbits
    rw [List.map_map]
    apply List.map_congr_left
    intro x _
    simp only [Function.comp, bw]
    cases w.testBit x <;> rfl

/-! ### Words and numbers -/
end Go.Proofs.YtemihnclhcobnaaGreatDoor
namespace Go.Proofs.YtemihnclhcobnaaGreatDoor
open Go.Rv
set_option linter.unusedVariables false
variable {β : Type}
/-- How deep a tree is. -/
def hd : Tr → Nat
  | .nil => 0
  | .node _ _ a c => if a.isNil then 0 else 1 + max (hd a) (hd c)
/-- How much is asked for an input. -/
def asked (x : Nat) : Tr → Nat
  | .nil => 0
  | .node s _ a c => if a.isNil then 0 else 1 + (if x.testBit (s.toNat - 97) then asked x c else asked x a)
/-- The leaf that an input leads to. -/
def leafAt (x : Nat) : Tr → Nat
  | .nil => 0
  | .node s _ a c => if a.isNil then s.toNat else (if x.testBit (s.toNat - 97) then leafAt x c else leafAt x a)
/-- Trees of questions. -/
def gt : Tr → Prop
  | .nil => False
  | .node s b a c => b = 0 ∧ ∃ n : Nat, s = n ∧ (((n = 48 ∨ n = 49) ∧ a = .nil ∧ c = .nil) ∨ (97 ≤ n ∧ n < 102 ∧ gt a ∧ gt c))
theorem gt_nil {T : Tr} (h : gt T) : T.isNil = false := by
  cases T with
  | nil => exact h.elim
  | node => rfl
def setb (x j : Nat) (b : Bool) : Nat := cond b (x ||| 2 ^ j) (x &&& (31 ^^^ 2 ^ j))
theorem setb_spec : ∀ x, x < 32 → ∀ j, j < 5 → (setb x j true < 32 ∧ (setb x j true).testBit j = true ∧ setb x j false < 32 ∧ (setb x j false).testBit j = false) ∧ ∀ i, i < 5 → i ≠ j → (setb x j true).testBit i = x.testBit i ∧ (setb x j false).testBit i = x.testBit i := by decide +kernel
theorem tt_gt : ∀ (F : Nat) (l : List UInt8) (m : Nat) (T : Tr) (r : List UInt8), m < 32 → tt F l m = some (T, r) → gt T ∧ hd T + ones m ≤ 5 ∧
    ∀ x, x < 32 → ∃ y, y < 32 ∧ (∀ i, i < 5 → m.testBit i = true → y.testBit i = x.testBit i) ∧ asked y T = hd T := by
  intro F
  induction F with
  | zero => intro l m T r _ h; cases h
  | succ F ih =>
    intro l m T r hm h
    cases l with
    | nil => cases h
    | cons c l =>
      have ho : ones m ≤ 5 := (mask_small m hm 0 (by decide)).2.2
      simp only [tt] at h
      cases h1 : (c.toNat == 48 || c.toNat == 49) with
      | true =>
        rw [h1, cond_true] at h
        cases h
        simp only [Bool.or_eq_true, beq_iff_eq] at h1
        exact ⟨⟨rfl, c.toNat, rfl, .inl ⟨h1, rfl, rfl⟩⟩, by simpa [hd, Tr.isNil] using ho, fun x hx => ⟨x, hx, fun _ _ _ => rfl, rfl⟩⟩
      | false =>
        rw [h1, cond_false] at h
        cases h2 : (ltr c.toNat && !m.testBit (c.toNat - 97)) with
        | false => rw [h2] at h; cases h
        | true =>
          rw [h2, cond_true] at h
          simp only [ltr, Bool.and_eq_true, decide_eq_true_eq, Bool.not_eq_true'] at h2
          obtain ⟨m1, m2, _⟩ := mask_small m hm (c.toNat - 97) (by omega)
          have m2 : ones (m ||| 2 ^ (c.toNat - 97)) = ones m + 1 := by
            rcases m2 with m2 | m2
            · rw [h2.2] at m2; cases m2
            · exact m2
          cases h4 : tt F l (m ||| 2 ^ (c.toNat - 97)) with
          | none => rw [h4] at h; cases h
          | some p =>
            obtain ⟨U, r1⟩ := p
            rw [h4] at h
            simp only at h
            cases h5 : tt F r1 (m ||| 2 ^ (c.toNat - 97)) with
            | none => rw [h5] at h; cases h
            | some q =>
              obtain ⟨V, r2⟩ := q
              rw [h5] at h
              cases h
              obtain ⟨a1, a2, a3⟩ := ih _ _ _ _ m1 h4
              obtain ⟨b1, b2, b3⟩ := ih _ _ _ _ m1 h5
              have hU := gt_nil a1
              have e : hd (.node (c.toNat : Int) 0 U V) = 1 + max (hd U) (hd V) := by simp only [hd]; rw [hU, if_neg (by decide)]
              refine ⟨⟨rfl, c.toNat, rfl, .inr ⟨h2.1.1, h2.1.2, a1, b1⟩⟩, by omega, fun x hx => ?_⟩
              have hj : c.toNat - 97 < 5 := by omega
              have hmj := h2.2
              have ea : ∀ y : Nat, asked y (.node (c.toNat : Int) 0 U V) = 1 + (if y.testBit (c.toNat - 97) then asked y V else asked y U) := fun y => by
                simp only [asked]; rw [hU, if_neg (by decide)]; rfl
              rw [e]
              generalize c.toNat - 97 = j at hj hmj a3 b3 ea
              obtain ⟨⟨s1, s2, s3, s4⟩, s5⟩ := setb_spec x hx j hj
              have hself : (m ||| 2 ^ j).testBit j = true := by rw [Nat.testBit_or, Nat.testBit_two_pow_self, Bool.or_true]
              have hsub : ∀ i, m.testBit i = true → (m ||| 2 ^ j).testBit i = true := fun i hi => by rw [Nat.testBit_or, hi, Bool.true_or]
              have hne : ∀ i, m.testBit i = true → i ≠ j := fun i hi e => by rw [e, hmj] at hi; cases hi
              by_cases hle : hd U ≤ hd V
              · obtain ⟨y, y1, y2, y3⟩ := b3 _ s1
                refine ⟨y, y1, fun i hi hmi => ?_, ?_⟩
                · rw [y2 i hi (hsub i hmi)]
                  exact (s5 i hi (hne i hmi)).1
                · rw [ea, y2 j hj hself, s2, if_pos rfl, y3]; omega
              · obtain ⟨y, y1, y2, y3⟩ := a3 _ s3
                refine ⟨y, y1, fun i hi hmi => ?_, ?_⟩
                · rw [y2 i hi (hsub i hmi)]
                  exact (s5 i hi (hne i hmi)).2
                · rw [ea, y2 j hj hself, s4, if_neg (by decide), y3]; omega

theorem drop_cons {l r : List UInt8} {c : UInt8} {i : Nat} (h : l.drop i = c :: r) : i < l.length ∧ bt (B l) (i : Int) = (c.toNat : Int) ∧ l.drop (i + 1) = r := by
  have hi : i < l.length := by
    rcases Nat.lt_or_ge i l.length with h1 | h1
    · exact h1
    · rw [List.drop_eq_nil_of_le h1] at h; cases h
  rw [drop_at l i hi] at h
  injection h with h1 h2
  exact ⟨hi, by rw [B_bt l i hi, h1], h2⟩
theorem byte_of (n : Nat) (h : n < 256) : (UInt8.ofNat n).toNat = n := by
  rw [UInt8.toNat_ofNat']; exact Nat.mod_eq_of_lt h
theorem node_bt {l r : List UInt8} {n i : Nat} {a c : Tr} (hn : n < 256) (h : l.drop i = tx (.node (n : Int) 0 a c) ++ r) : i < l.length ∧ bt (B l) (i : Int) = (n : Int) ∧ l.drop (i + 1) = tx a ++ (tx c ++ r) := by
  simp only [tx, Int.toNat_natCast, List.cons_append, List.append_assoc] at h
  have := drop_cons h
  rw [byte_of n hn] at this
  exact this
theorem drop_more {l m r : List UInt8} {i : Nat} (h : l.drop i = m ++ r) : l.drop (i + m.length) = r := by
  rw [← List.drop_drop, h]; simp
theorem l7Skip_eq (N : Nat) (l : List UInt8) (hl : l.length ≤ 1048576) : ∀ (F : Nat) (T : Tr) (i : Nat) (r : List UInt8), gt T → l.drop i = tx T ++ r → (tx T).length ≤ F → ∀ k : Int → Option β,
    zj42 N F (B l) (i : Int) k = k ((i + (tx T).length : Nat) : Int) := by
  intro F
  induction F with
  | zero =>
    intro T i r hg _ h
    cases T with
    | nil => exact hg.elim
    | node => simp [tx] at h
  | succ F ih =>
    intro T i r hg hd hF k
    cases T with
    | nil => exact hg.elim
    | node s b a c =>
      obtain ⟨rfl, n, rfl, h⟩ := hg
      have hn : n < 256 := by rcases h with ⟨h, _⟩ | ⟨_, h, _⟩ <;> omega
      obtain ⟨hi, hb, hr⟩ := node_bt hn hd
      simp only [zj42, zj41, hb, B_size]
      have g1 : decide ((0 : Int) ≤ (i : Int)) = true := decide_eq_true (by omega)
      have g2 : decide ((i : Int) < (l.length : Int)) = true := decide_eq_true (by omega)
      simp only [g1, g2, gd, cond_true]
      rw [show w64 ((i : Int) + 1) = ((i + 1 : Nat) : Int) by rw [w64_id] <;> omega]
      have e48 : ((n : Int) == 48) = (n == 48) := natb n 48
      have e49 : ((n : Int) == 49) = (n == 49) := natb n 49
      rw [e48, e49]
      simp only [tx, List.length_cons, List.length_append] at hF ⊢
      rcases h with ⟨h, rfl, rfl⟩ | ⟨h1, h2, ga, gc⟩
      · rcases h with rfl | rfl <;> rfl
      · rw [beq_eq_false_iff_ne.2 (by omega : n ≠ 48), beq_eq_false_iff_ne.2 (by omega : n ≠ 49), cond_false, cond_false, ih a (i + 1) _ ga hr (by omega), ih c _ r gc (drop_more hr) (by omega)]
        congr 2
        omega
theorem l7Run_eq (N : Nat) (l : List UInt8) (hl : l.length ≤ 1048576) (hN : 1048576 < N) (x : Nat) (hx : x < 32) : ∀ (F : Nat) (T : Tr) (i c : Nat) (r : List UInt8), gt T → l.drop i = tx T ++ r → hd T < F → hd T + c < 1000 →
    ∃ p, p < l.length ∧ bt (B l) (p : Int) = (leafAt x T : Int) ∧ ∀ k0 : ByteArray → Int → Int → Option β, zj45 N F (B l) (x : Int) (i : Int) (c : Int) k0 = k0 (B l) (p : Int) ((c + asked x T : Nat) : Int) := by
  intro F
  induction F with
  | zero => intro T i c r _ _ h; omega
  | succ F ih =>
    intro T i q r hg hdr hF hq
    cases T with
    | nil => exact hg.elim
    | node s b a c =>
      obtain ⟨rfl, n, rfl, h⟩ := hg
      have hn : n < 256 := by rcases h with ⟨h, _⟩ | ⟨_, h, _⟩ <;> omega
      obtain ⟨hi, hb, hr⟩ := node_bt hn hdr
      simp only [zj45, zj44, hb, B_size]
      have g1 : decide ((0 : Int) ≤ (i : Int)) = true := decide_eq_true (by omega)
      have g2 : decide ((i : Int) < (l.length : Int)) = true := decide_eq_true (by omega)
      simp only [g1, g2, gd, cond_true]
      rw [show w64 ((i : Int) + 1) = ((i + 1 : Nat) : Int) by rw [w64_id] <;> omega, show w64 ((q : Int) + 1) = ((q + 1 : Nat) : Int) by rw [w64_id] <;> omega]
      have e48 : ((n : Int) != 48) = !(n == 48) := congrArg Bool.not (natb n 48)
      have e49 : ((n : Int) != 49) = !(n == 49) := congrArg Bool.not (natb n 49)
      rw [e48, e49]
      rcases h with ⟨h, rfl, rfl⟩ | ⟨h1, h2, ga, gc⟩
      · refine ⟨i, hi, hb, fun k0 => ?_⟩
        rcases h with rfl | rfl <;> rfl
      · have hna := gt_nil ga
        simp only [hd] at hF hq
        rw [hna, if_neg (by decide)] at hF hq
        have ea : asked x (.node (n : Int) 0 a c) = 1 + (if x.testBit (n - 97) then asked x c else asked x a) := by
          simp only [asked]; rw [hna, if_neg (by decide)]; rfl
        have el : leafAt x (.node (n : Int) 0 a c) = (if x.testBit (n - 97) then leafAt x c else leafAt x a) := by
          simp only [leafAt]; rw [hna, if_neg (by decide)]; rfl
        rw [ea, el]
        have ew : w8 ((n : Int) - 97) = ((n - 97 : Nat) : Int) := by rw [show (n : Int) - 97 = ((n - 97 : Nat) : Int) by omega, w8_small _ (by omega)]
        simp only [beq_eq_false_iff_ne.2 (by omega : n ≠ 48), beq_eq_false_iff_ne.2 (by omega : n ≠ 49), Bool.not_false, cond_true, ew, decide_eq_true (Int.natCast_nonneg (n - 97)), bit_w x (n - 97) (by omega), bw_eq1]
        cases hbit : x.testBit (n - 97) with
        | false =>
          obtain ⟨p, hp, hv, he⟩ := ih a (i + 1) (q + 1) _ ga hr (by omega) (by omega)
          refine ⟨p, hp, by rw [if_neg (by decide)]; exact hv, fun k0 => ?_⟩
          rw [cond_false, he, if_neg (by decide)]
          congr 2
          omega
        | true =>
          obtain ⟨p, hp, hv, he⟩ := ih c (i + 1 + (tx a).length) (q + 1) r gc (drop_more hr) (by omega) (by omega)
          have hlen : (tx a).length ≤ N := by
            have := congrArg List.length hr
            rw [List.length_drop, List.length_append] at this
            omega
          refine ⟨p, hp, by rw [if_pos rfl]; exact hv, fun k0 => ?_⟩
          unfold zj43
          rw [cond_true, l7Skip_eq N l hl N a (i + 1) _ ga hr hlen, he, if_pos rfl]
          congr 2
          omega

end Go.Proofs.YtemihnclhcobnaaGreatDoor
