/- Plain laws of the texts. -/
import Derived.Test.YtfdggelojmofmaaDoorP91
import Derived.Test.YtfdggelojmofmaaDoorRvNum
namespace Go.Proofs.YtfdggelojmofmaaDoor
open Go.Rv
variable {β : Type}
def B (l : List UInt8) : ByteArray := ⟨l.toArray⟩
theorem B_data (s : ByteArray) : B s.data.toList = s := by cases s; simp [B]
theorem B_size (l : List UInt8) : (B l).size = l.length := by simp [B, ByteArray.size]
theorem B_inj {a b : ByteArray} (h : a.data.toList = b.data.toList) : a = b := by rw [← B_data a, ← B_data b, h]
theorem B_toList (l : List UInt8) : (B l).toList = l := Go.ByteArray.toList_mk l
theorem B_list (l : List UInt8) : (B l).data.toList = l := by simp [B]
theorem B_app (l m : List UInt8) : B l ++ B m = B (l ++ m) := by
  apply B_inj
  rw [ByteArray.toList_data_append]
  simp [B]
theorem B_ext (l : List UInt8) (a b : Nat) : (B l).extract a b = B ((l.take b).drop a) := by
  apply B_inj
  rw [ByteArray.data_extract]
  simp [B, List.drop_take, List.extract_eq_take_drop]
theorem B_nil : ByteArray.empty = B [] := rfl
theorem B_one (n : Int) : strOf (([] : List Int) ++ [n]) = B [UInt8.ofNat n.toNat] := by
  simp [strOf, B]
theorem B_strOf (l : List Int) : strOf l = B (l.map fun n => UInt8.ofNat n.toNat) := by simp [strOf, B]
theorem B_bt (l : List UInt8) (i : Nat) (h : i < l.length) : bt (B l) (i : Int) = (l[i].toNat : Int) := by
  simp [bt, B, List.getD, List.getElem?_eq_getElem h]
theorem B_bt0 (c : UInt8) (r : List UInt8) : bt (B (c :: r)) 0 = (c.toNat : Int) := by simp [bt, B]
theorem B_tail (c : UInt8) (r : List UInt8) : (B (c :: r)).extract (Int.toNat 1) (B (c :: r)).size = B r := by
  rw [B_ext, B_size]
  simp
theorem B_lt (c : UInt8) : c.toNat < 256 := c.toNat_lt
end Go.Proofs.YtfdggelojmofmaaDoor
namespace Go.Proofs.YtfdggelojmofmaaDoor
open Go.Rv
variable {β : Type}
def lf (n : Nat) : Bool := (decide (97 ≤ n) && decide (n < 102)) || (n == 48 || n == 49)
def bn (n : Nat) : Bool := n == 38 || (n == 124 || n == 94)
/-- A formula at the front: its tree and what is left. -/
def pt : Nat → List UInt8 → Option (Tr × List UInt8)
  | 0, _ => none
  | _ + 1, [] => none
  | F + 1, c :: r =>
    cond (lf c.toNat) (some (.node c.toNat 0 .nil .nil, r))
      (cond (c.toNat == 33) (match pt F r with
        | some (T, r1) => some (.node 33 0 T .nil, r1)
        | none => none)
        (cond (bn c.toNat) (match pt F r with
          | some (A, r1) => match pt F r1 with
            | some (C, r2) => some (.node c.toNat 0 A C, r2)
            | none => none
          | none => none) none))
/-- A tree's text. -/
def tx : Tr → List UInt8
  | .nil => []
  | .node a _ l r => UInt8.ofNat a.toNat :: (tx l ++ tx r)
/-- Trees of formulas. -/
def wf : Tr → Prop
  | .nil => False
  | .node a b l r => b = 0 ∧ ∃ n : Nat, a = n ∧ n < 256 ∧ ((lf n = true ∧ l = .nil ∧ r = .nil) ∨ (n = 33 ∧ wf l ∧ r = .nil) ∨ (bn n = true ∧ wf l ∧ wf r))

theorem pt_wf : ∀ (F : Nat) (l : List UInt8) (T : Tr) (r : List UInt8), pt F l = some (T, r) → wf T ∧ l = tx T ++ r := by
  intro F
  induction F with
  | zero => intro l T r h; cases h
  | succ F ih =>
    intro l T r h
    cases l with
    | nil => cases h
    | cons c l =>
      simp only [pt] at h
      cases h1 : lf c.toNat with
      | true =>
        rw [h1, cond_true] at h
        cases h
        exact ⟨⟨rfl, c.toNat, rfl, B_lt c, .inl ⟨h1, rfl, rfl⟩⟩, by simp [tx]⟩
      | false =>
        rw [h1, cond_false] at h
        cases h2 : c.toNat == 33 with
        | true =>
          rw [h2, cond_true] at h
          have h2 := eq_of_beq h2
          cases h3 : pt F l with
          | none => rw [h3] at h; cases h
          | some p =>
            obtain ⟨U, r1⟩ := p
            rw [h3] at h
            cases h
            obtain ⟨k1, k2⟩ := ih _ _ _ h3
            refine ⟨⟨rfl, 33, rfl, by decide, .inr (.inl ⟨rfl, k1, rfl⟩)⟩, ?_⟩
            have : c = 33 := by rw [← UInt8.ofNat_toNat (x := c), h2]; rfl
            subst this
            simp only [tx, List.append_nil, List.cons_append]
            rw [← k2]
            rfl
        | false =>
          rw [h2, cond_false] at h
          cases h3 : bn c.toNat with
          | false => rw [h3] at h; cases h
          | true =>
            rw [h3, cond_true] at h
            cases h4 : pt F l with
            | none => rw [h4] at h; cases h
            | some p =>
              obtain ⟨U, r1⟩ := p
              rw [h4] at h
              simp only at h
              cases h5 : pt F r1 with
              | none => rw [h5] at h; cases h
              | some q =>
                obtain ⟨V, r2⟩ := q
                rw [h5] at h
                cases h
                obtain ⟨k1, k2⟩ := ih _ _ _ h4
                obtain ⟨k3, k4⟩ := ih _ _ _ h5
                refine ⟨⟨rfl, c.toNat, rfl, B_lt c, .inr (.inr ⟨h3, k1, k3⟩)⟩, ?_⟩
                simp only [tx, Int.toNat_natCast, UInt8.ofNat_toNat, List.cons_append, List.append_assoc]
                rw [← k4, ← k2]

theorem pt_tx : ∀ (T : Tr) (F : Nat) (r : List UInt8), wf T → (tx T).length ≤ F → pt F (tx T ++ r) = some (T, r) := by
  intro T
  induction T with
  | nil => intro F r h; exact h.elim
  | node a b l r ihl ihr =>
    intro F q h hF
    obtain ⟨rfl, n, rfl, hn, h⟩ := h
    have e : (UInt8.ofNat ((n : Int).toNat)).toNat = n := by simp; omega
    cases F with
    | zero => simp [tx] at hF
    | succ F =>
      simp only [tx, List.cons_append, List.append_assoc, List.length_cons, List.length_append] at hF ⊢
      simp only [pt, e]
      rcases h with ⟨h1, rfl, rfl⟩ | ⟨rfl, h1, rfl⟩ | ⟨h1, h2, h3⟩
      · rw [h1]; simp [tx]
      · rw [show lf 33 = false from rfl, show ((33 : Nat) == 33) = true from rfl]
        simp only [cond_true, cond_false, tx, List.nil_append]
        rw [ihl F q h1 (by simpa [tx] using hF)]
        rfl
      · have e1 : lf n = false := by
          simp only [bn, Bool.or_eq_true, beq_iff_eq] at h1
          rcases h1 with rfl | rfl | rfl <;> rfl
        have e2 : (n == 33) = false := by
          simp only [bn, Bool.or_eq_true, beq_iff_eq] at h1
          rcases h1 with rfl | rfl | rfl <;> rfl
        rw [e1, e2, h1]
        simp only [cond_true, cond_false]
        rw [ihl F _ h2 (by omega)]
        simp only
        rw [ihr F _ h3 (by omega)]

theorem tx_pos {T : Tr} (h : wf T) : 0 < (tx T).length := by
  cases T with
  | nil => exact h.elim
  | node a b l r => simp [tx]

theorem isLetter_nat (N n : Nat) (k : Bool → Option β) : impl_isLetter N (n : Int) k = k (decide (97 ≤ n) && decide (n < 102)) := by
  simp only [impl_isLetter]
  by_cases h1 : 97 ≤ n
  · rw [decide_eq_true (show (n : Int) ≥ 97 by omega), decide_eq_true h1]
    simp only [cond_true, Bool.true_and]
    congr 1
    by_cases h2 : n < 102
    · rw [decide_eq_true h2, decide_eq_true (by omega)]
    · rw [decide_eq_false h2, decide_eq_false (by omega)]
  · rw [decide_eq_false (show ¬ (n : Int) ≥ 97 by omega), decide_eq_false h1]
    rfl

theorem natb (n m : Nat) : ((n : Int) == (m : Int)) = (n == m) := by
  by_cases h : n = m
  · subst h; simp
  · rw [beq_eq_false_iff_ne.2 h, beq_eq_false_iff_ne.2 (by omega)]
end Go.Proofs.YtfdggelojmofmaaDoor
namespace Go.Proofs.YtfdggelojmofmaaDoor
open Go.Rv
variable {β : Type}
theorem drop_at {α : Type} (l : List α) (i : Nat) (h : i < l.length) : l.drop i = l[i] :: l.drop (i + 1) := List.drop_eq_getElem_cons h
theorem suffix_at {α : Type} {l m r : List α} {i : Nat} (h : l.drop i = m ++ r) (hi : i ≤ l.length) : l.drop (l.length - r.length) = r ∧ l.length - r.length ≤ l.length ∧ i + m.length = l.length - r.length ∧ r.length ≤ l.length := by
  have e : l.length - i = m.length + r.length := by rw [← List.length_drop, h, List.length_append]
  have e2 : l.length - r.length = i + m.length := by omega
  refine ⟨?_, by omega, by omega, by omega⟩
  rw [e2, ← List.drop_drop, h]
  simp
end Go.Proofs.YtfdggelojmofmaaDoor
namespace Go.Proofs.YtfdggelojmofmaaDoor
open Go.Rv
variable {β : Type}
/-- A loop that counts up. -/
theorem loop_st (g : Nat → Nat → Option β) (m : Nat) (r : Option β) (hs : ∀ F i, i < m → g (F + 1) i = g F (i + 1)) (he : ∀ F, g (F + 1) m = r) :
    ∀ (F i : Nat), i ≤ m → m - i < F → g F i = r := by
  intro F
  induction F with
  | zero => intro i _ h; omega
  | succ F ih =>
    intro i hi hF
    rcases Nat.lt_or_ge i m with h | h
    · rw [hs F i h]; exact ih (i + 1) h (by omega)
    · have : i = m := by omega
      subst this; exact he F

/-- A loop that counts up from a place. -/
theorem loop_from (g : Nat → Nat → Option β) (i0 m : Nat) (r : Option β) (hs : ∀ F i, i0 ≤ i → i < m → g (F + 1) i = g F (i + 1)) (he : ∀ F, g (F + 1) m = r) :
    ∀ (F i : Nat), i0 ≤ i → i ≤ m → m - i < F → g F i = r := by
  intro F
  induction F with
  | zero => intro i _ _ h; omega
  | succ F ih =>
    intro i h0 hi hF
    rcases Nat.lt_or_ge i m with h | h
    · rw [hs F i h0 h]; exact ih (i + 1) (by omega) h (by omega)
    · have : i = m := by omega
      subst this; exact he F

def sumTo (h : Nat → Int) : Nat → Int
  | 0 => 0
  | m + 1 => sumTo h m + h m
theorem sumTo_le (h : Nat → Int) (hb : ∀ i, -1 ≤ h i ∧ h i ≤ 1) : ∀ m : Nat, -(m : Int) ≤ sumTo h m ∧ sumTo h m ≤ (m : Int)
  | 0 => by simp [sumTo]
  | m + 1 => by have := sumTo_le h hb m; have := hb m; simp only [sumTo]; omega

def sg (m : Nat) : Int := if m % 2 = 1 then -1 else 1
theorem sg_add (a b : Nat) : sg (a + b) = sg a * sg b := by
  unfold sg
  rcases Nat.mod_two_eq_zero_or_one a with h1 | h1 <;> rcases Nat.mod_two_eq_zero_or_one b with h2 | h2 <;> simp [h1, h2, Nat.add_mod]
theorem sg_range (a b : Nat) : -1 ≤ sg a * sg b ∧ sg a * sg b ≤ 1 := by
  rw [← sg_add]
  unfold sg
  split <;> simp
def bw (w x : Nat) : Nat := if w.testBit x then 1 else 0
theorem ones_bw (w x : Nat) : ones (bw w x) = bw w x := by
  unfold bw
  split <;> rfl
theorem bw_le (w x : Nat) : bw w x ≤ 1 := by unfold bw; split <;> omega

/-- The term of a set and an input. -/
def tm (w u x : Nat) : Int := sg (bw w x) * sg (ones (u &&& x))
theorem tm_range (w u x : Nat) : -1 ≤ tm w u x ∧ tm w u x ≤ 1 := sg_range _ _
def sps (w n m : Nat) : List Int := (List.range m).map fun u => sumTo (tm w u) (2 ^ n)
theorem sps_len (w n m : Nat) : (sps w n m).length = m := by simp [sps]
theorem sps_succ (w n m : Nat) : sps w n (m + 1) = sps w n m ++ [sumTo (tm w m) (2 ^ n)] := by simp [sps, List.range_succ]
theorem isTn {n w : Nat} (hn : n ≤ 5) (hw : w < 2 ^ 2 ^ n) : isT (n : Int) (w : Int) = true := by
  have h4 : ((w : Nat) : Int) < 2 ^ 2 ^ n := by exact_mod_cast hw
  simp only [isT, Bool.and_eq_true, decide_eq_true_eq, Int.toNat_natCast]
  exact ⟨⟨⟨by omega, by omega⟩, by omega⟩, h4⟩
theorem w_small {n w : Nat} (hn : n ≤ 5) (hw : w < 2 ^ 2 ^ n) : w < 4294967296 :=
  Nat.lt_of_lt_of_le hw (Nat.le_trans (Nat.pow_le_pow_right (by decide) (size_le hn)) (by decide))

theorem rd_mid (p : List Int) (y : Int) (r : List Int) : rd 0 (p ++ y :: r) (p.length : Int) = y := by
  simp [rd, List.getD]
theorem wr_mid {α : Type} (p : List α) (y z : α) (r : List α) : wr (p ++ y :: r) (p.length : Int) z = p ++ z :: r := by
  simp [wr]

theorem impl_Table_size_eq (N n : Nat) (w : Int) (hn : n ≤ 5) (k : Int → Option β) : impl_Table_size N (n : Int) w k = k ((2 ^ n : Nat) : Int) := by
  unfold impl_Table_size
  rw [gd_true (decide_eq_true (by omega)), shl_one n (by omega)]
theorem impl_Table_at_eq (N w x : Nat) (n : Int) (hw : w < 4294967296) (k : Int → Option β) : impl_Table_at N n (w : Int) (x : Int) k = k (bw w x : Int) := by
  unfold impl_Table_at
  rw [gd_true (decide_eq_true (by omega)), bit_at w x (by omega)]
  rfl

/-! ### Energies -/
def en (l z : List Int) : Nat → List Int
  | 0 => z
  | i + 1 => wr (en l z i) (ones i : Int) (w64 (rd 0 (en l z i) (ones i : Int) + w64 (rd 0 l (i : Int) * rd 0 l (i : Int))))
theorem en_len (l z : List Int) : ∀ i, (en l z i).length = z.length
  | 0 => rfl
  | i + 1 => by simp [en, wr, en_len l z i]
theorem ones_small : ∀ n, n ≤ 5 → ∀ i, i < 2 ^ n → ones i ≤ n := by decide +kernel

/-! ### Nonlinearity -/
def pkS (l : List Int) : Nat → Int
  | 0 => 0
  | i + 1 => mxI (pkS l i) (mxI (rd 0 l (i : Int)) (w64 (0 - rd 0 l (i : Int))))
def nonl (w n : Nat) : Int := quoI .i64 (w64 (((2 ^ n : Nat) : Int) - pkS (sps w n (2 ^ n)) (2 ^ n))) 2
theorem two_pos (n : Nat) : 0 < 2 ^ n := Nat.pow_pos (by decide)
/-! ### Immunity -/
def ci (l : List Int) (n : Int) : Nat → Int
  | 0 => n
  | i + 1 => cond (decide (0 < i) && (rd 0 l (i : Int) != 0)) (mnI (ci l n i) (w64 ((ones i : Int) - 1))) (ci l n i)
/-! ### Rejects -/
def rj (w x y : Nat) : Int := bits .xor .i64 (bits .xor .i64 (bw w x : Int) (bw w y : Int)) (bw w (x ^^^ y) : Int)
def rj2 (w x : Nat) (s : Int) : Nat → Int
  | 0 => s
  | y + 1 => w64 (rj2 w x s y + rj w x y)
def rj1 (w m : Nat) : Nat → Int
  | 0 => 0
  | x + 1 => rj2 w x (rj1 w m x) m
theorem bit3 (w x y z : Nat) (hw : w < 4294967296) : bits .and .i64 (bits .xor .i64 (bits .xor .i64 (shrI .i64 (w : Int) (x : Int)) (shrI .i64 (w : Int) (y : Int))) (shrI .i64 (w : Int) (z : Int))) 1 = bits .xor .i64 (bits .xor .i64 (bw w x : Int) (bw w y : Int)) (bw w z : Int) := by
  have hx := Nat.div_le_self w (2 ^ x); have hy := Nat.div_le_self w (2 ^ y); have hz := Nat.div_le_self w (2 ^ z)
  have b1 := bw_le w x; have b2 := bw_le w y; have b3 := bw_le w z
  have e : ∀ i, bw w i = w / 2 ^ i % 2 := fun i => by
    unfold bw
    rw [Nat.testBit_eq_decide_div_mod_eq]
    rcases Nat.mod_two_eq_zero_or_one (w / 2 ^ i) with h | h <;> simp [h]
  have c1 : w / 2 ^ x ^^^ w / 2 ^ y < 2 ^ 32 := Nat.xor_lt_two_pow (by omega) (by omega)
  have c2 : (w / 2 ^ x ^^^ w / 2 ^ y) ^^^ w / 2 ^ z < 2 ^ 32 := Nat.xor_lt_two_pow c1 (by omega)
  have d1 : bw w x ^^^ bw w y < 2 ^ 1 := Nat.xor_lt_two_pow (by omega) (by omega)
  rw [shr_nat w x (by omega), shr_nat w y (by omega), shr_nat w z (by omega), bXor _ _ (by omega) (by omega), bXor _ _ (by omega) (by omega), show (1 : Int) = ((1 : Nat) : Int) from rfl, bAnd _ _ (by omega) (by omega), bXor _ _ (by omega) (by omega), bXor _ _ (by omega) (by omega)]
  congr 1
  rw [Nat.and_one_is_mod, e x, e y, e z]
  have m2 : ∀ a b : Nat, (a ^^^ b) % 2 = (a % 2) ^^^ (b % 2) := fun a b => by
    have := Nat.xor_mod_two_pow (a := a) (b := b) (n := 1)
    simpa using this
  rw [m2, m2]
end Go.Proofs.YtfdggelojmofmaaDoor
namespace Go.Proofs.YtfdggelojmofmaaDoor
open Go.Rv
variable {β : Type}
def in64 (n : Int) : Prop := -9223372036854775808 ≤ n ∧ n ≤ 9223372036854775807
theorem w64_in (x : Int) : in64 (w64 x) := by
  show -9223372036854775808 ≤ IntKind.wrap .i64 x ∧ _
  rw [show w64 x = IntKind.wrap .i64 x from rfl, IntKind.wrap_i64]
  omega

def dgs (m : Nat) : List UInt8 := if m = 0 then [] else Lib.decDigits m
theorem dgs_step (m : Nat) (h : 0 < m) : dgs m = dgs (m / 10) ++ [UInt8.ofNat (48 + m % 10)] := by
  unfold dgs
  rw [if_neg (by omega)]
  by_cases h1 : m < 10
  · rw [Lib.decDigits, dif_pos h1, if_pos (by omega), Nat.mod_eq_of_lt h1]
    rfl
  · rw [if_neg (by omega), Lib.decDigits, dif_neg h1]
theorem dgs_len : ∀ (d m : Nat), m < 10 ^ d → (dgs m).length ≤ d := by
  intro d
  induction d with
  | zero => intro m h; have : m = 0 := by simpa using h
            subst this; simp [dgs]
  | succ d ih =>
    intro m h
    by_cases h0 : m = 0
    · subst h0; simp [dgs]
    · rw [dgs_step m (by omega)]
      have := ih (m / 10) (by rw [Nat.pow_succ] at h; omega)
      simp
      exact this

def sgn (s : Bool) (m : Nat) : Int := cond s (-(m : Int)) m
theorem rem_sgn (s : Bool) (m : Nat) : remI (sgn s m) 10 = sgn s (m % 10) := by
  cases s with
  | false => rfl
  | true =>
    show (-(m : Int)).tmod 10 = -((m % 10 : Nat) : Int)
    rw [Int.neg_tmod]
    rfl
theorem quo_sgn (s : Bool) (m : Nat) (h : m ≤ 9223372036854775808) : quoI .i64 (sgn s m) 10 = sgn s (m / 10) := by
  show w64 ((sgn s m).tdiv 10) = _
  have e : (sgn s m).tdiv 10 = sgn s (m / 10) := by
    cases s with
    | false => rfl
    | true =>
      show (-(m : Int)).tdiv 10 = -((m / 10 : Nat) : Int)
      rw [Int.neg_tdiv]
      rfl
  rw [e]
  cases s <;> simp only [sgn, cond_true, cond_false] <;> rw [w64_id] <;> omega

theorem w8_small (n : Nat) (h : n < 256) : w8 (n : Int) = n := by
  have := IntKind.wrap_u8 (n : Int)
  show IntKind.wrap .u8 (n : Int) = n
  rw [this]
  omega

theorem itoaB_eq (n : Int) : itoaB n = B (Lib.itoa n) := rfl
theorem pow19 : (9223372036854775808 : Nat) < 10 ^ 19 := by decide
theorem itoa_len (n : Int) (h : in64 n) : (Lib.itoa n).length ≤ 20 ∧ 0 < (Lib.itoa n).length := by
  have key : ∀ m : Nat, m ≤ 9223372036854775808 → (Lib.decDigits m).length ≤ 19 ∧ 0 < (Lib.decDigits m).length := by
    intro m hm
    by_cases h0 : m = 0
    · subst h0; rw [Lib.decDigits, dif_pos (by decide)]; simp
    · have e : dgs m = Lib.decDigits m := if_neg h0
      rw [← e]
      refine ⟨dgs_len 19 m (Nat.lt_of_le_of_lt hm pow19), ?_⟩
      rw [dgs_step m (by omega)]
      simp
  obtain ⟨h1, h2⟩ := h
  unfold Lib.itoa
  split
  · have := key n.natAbs (by omega)
    simp; omega
  · have := key n.toNat (by omega)
    omega

theorem impl_FormatInt_eq (N : Nat) (n : Int) (h : in64 n) (k : ByteArray → Option β) : impl_FormatInt N n k = k (B (Lib.itoa n)) := by
  unfold impl_FormatInt strconv_Itoa
  rw [gd_true (decide_eq_true h.1), gd_true (decide_eq_true h.2)]
  rfl

/-! ### Lists of numbers -/
def jn (l : List Int) : Nat → List UInt8
  | 0 => []
  | i + 1 => cond (decide (0 < i)) (jn l i ++ [44]) (jn l i) ++ Lib.itoa (rd 0 l (i : Int))
def textL (l : List Int) : List UInt8 := if l = [] then [110, 111, 110, 101] else jn l l.length
theorem rd_in (l : List Int) (hr : ∀ x ∈ l, in64 x) (i : Nat) (h : i < l.length) : in64 (rd 0 l (i : Int)) := by
  rw [rd_nat 0 l i h]
  exact hr _ (List.getElem_mem h)
theorem jn_len (l : List Int) (hr : ∀ x ∈ l, in64 x) : ∀ i, i ≤ l.length → (jn l i).length ≤ 21 * i ∧ (0 < i → 0 < (jn l i).length)
  | 0, _ => by simp [jn]
  | i + 1, h => by
    have h1 := jn_len l hr i (by omega)
    have h2 := itoa_len _ (rd_in l hr i (by omega))
    simp only [jn]
    cases decide (0 < i) <;> simp only [cond_true, cond_false, List.length_append, List.length_cons, List.length_nil] <;> omega
theorem textL_len (l : List Int) (hr : ∀ x ∈ l, in64 x) : (textL l).length ≤ 21 * l.length + 4 := by
  unfold textL
  split
  · simp
  · have := jn_len l hr l.length (Nat.le_refl _); omega

theorem jn_join (l : List Int) : ∀ (x : Int) (i : Nat), i ≤ l.length → jn (x :: l) (i + 1) = Lib.itoa x ++ Lib.joinTail [44] ((l.map Lib.itoa).take i) := by
  intro x i
  induction i with
  | zero =>
    intro _
    simp [jn, Lib.joinTail, rd, List.getD]
  | succ i ih =>
    intro h
    have e : (l.map Lib.itoa)[i]? = some (Lib.itoa l[i]) := by rw [List.getElem?_map, List.getElem?_eq_getElem (by omega)]; rfl
    rw [Lib.joinTail_take_succ [44] _ i _ e]
    have e2 : jn (x :: l) (i + 1 + 1) = jn (x :: l) (i + 1) ++ [44] ++ Lib.itoa (rd 0 (x :: l) ((i + 1 : Nat) : Int)) := rfl
    rw [e2, ih (by omega), rd_nat 0 (x :: l) (i + 1) (by simp; omega)]
    simp
theorem textL_join (l : List Int) (h : l ≠ []) : textL l = Lib.join (l.map Lib.itoa) [44] := by
  unfold textL
  rw [if_neg h]
  cases l with
  | nil => exact absurd rfl h
  | cons x l =>
    rw [List.length_cons, jn_join l x l.length (Nat.le_refl _), List.map_cons, Lib.join_cons, List.take_of_length_le (by simp)]
end Go.Proofs.YtfdggelojmofmaaDoor
namespace Go.Proofs.YtfdggelojmofmaaDoor
open Go.Rv
variable {β : Type}
theorem natq (n m : Nat) : ((n : Int) == (m : Int)) = (n == m) := by
  by_cases h : n = m
  · subst h; simp
  · rw [beq_eq_false_iff_ne.2 h, beq_eq_false_iff_ne.2 (by omega)]
theorem bw_eq0 (w x : Nat) : ((bw w x : Int) == 0) = !w.testBit x := by unfold bw; cases w.testBit x <;> rfl
theorem bw_eq1 (w x : Nat) : ((bw w x : Int) == 1) = w.testBit x := by unfold bw; cases w.testBit x <;> rfl
theorem bw_ne1 (w x : Nat) : ((bw w x : Int) != 1) = !w.testBit x := by unfold bw; cases w.testBit x <;> rfl
theorem bw_ne (w x y : Nat) : ((bw w x : Int) != (bw w y : Int)) = (w.testBit x != w.testBit y) := by unfold bw; cases w.testBit x <;> cases w.testBit y <;> rfl
theorem bit_w (w x : Nat) (hw : w < 9223372036854775808) : bits .and .i64 (shrI .i64 (w : Int) (x : Int)) 1 = (bw w x : Int) := bit_at w x hw

/-- That all below a number are such. -/
def allTo (p : Nat → Bool) : Nat → Bool
  | 0 => true
  | m + 1 => allTo p m && p m
theorem allTo_spec {p : Nat → Bool} : ∀ {m : Nat}, allTo p m = true → ∀ i, i < m → p i = true
  | 0, _, i, h => by omega
  | m + 1, h, i, hi => by
    simp only [allTo, Bool.and_eq_true] at h
    rcases Nat.lt_or_ge i m with h1 | h1
    · exact allTo_spec h.1 i h1
    · have : i = m := by omega
      subst this; exact h.2
theorem allTo_of {p : Nat → Bool} : ∀ {m : Nat}, (∀ i, i < m → p i = true) → allTo p m = true
  | 0, _ => rfl
  | m + 1, h => by
    simp only [allTo, Bool.and_eq_true]
    exact ⟨allTo_of fun i hi => h i (by omega), h m (by omega)⟩
theorem allTo_eq {p q : Nat → Bool} {m m' : Nat} (h : (∀ i, i < m → p i = true) ↔ (∀ i, i < m' → q i = true)) : allTo p m = allTo q m' := by
  cases h1 : allTo p m with
  | true => exact (allTo_of (h.1 (allTo_spec h1))).symm
  | false =>
    cases h2 : allTo q m' with
    | false => rfl
    | true => rw [allTo_of (h.2 (allTo_spec h2))] at h1; cases h1
/-- A loop that leaves at the first that is not such. -/
theorem loop_all (g : Nat → Nat → Option β) (p : Nat → Bool) (m : Nat) (r0 r1 : Option β) (hs : ∀ F i, i < m → g (F + 1) i = cond (p i) (g F (i + 1)) r0) (he : ∀ F, g (F + 1) m = r1) :
    ∀ F, m < F → g F 0 = cond (allTo p m) r1 r0 := by
  have key : ∀ (F i : Nat), i ≤ m → m - i < F → allTo p i = true → g F i = cond (allTo p m) r1 r0 := by
    intro F
    induction F with
    | zero => intro i _ h; omega
    | succ F ih =>
      intro i hi hF ha
      rcases Nat.lt_or_ge i m with h | h
      · rw [hs F i h]
        cases hp : p i with
        | true => exact ih (i + 1) h (by omega) (by simp only [allTo, ha, hp, Bool.and_self])
        | false =>
          have : allTo p m = false := by
            cases hm : allTo p m with
            | false => rfl
            | true => rw [allTo_spec hm i h] at hp; cases hp
          rw [this]; rfl
      · have : i = m := by omega
        subst this
        rw [he, ha]; rfl
  intro F hF
  exact key F 0 (Nat.zero_le _) (by omega) rfl

theorem xor_zero {a b : Nat} (h : a ^^^ b = 0) : a = b := by
  have : a ^^^ b ^^^ b = b := by rw [h, Nat.zero_xor]
  rwa [Nat.xor_assoc, Nat.xor_self, Nat.xor_zero] at this
theorem bit_eq1 (c : Bool) : (((if c then 1 else 0 : Nat) : Int) == 1) = c := by cases c <;> rfl
theorem spread_sm : ∀ x : Nat, x < 16 → ∀ i : Nat, i < 5 → ∀ b : Nat, b < 2 → bits .or .i64 (bits .or .i64 (shlI .i64 (w64 ((x : Int) - bits .and .i64 (x : Int) (w64 (shlI .i64 1 (i : Int) - 1)))) 1) (shlI .i64 (b : Int) (i : Int))) (bits .and .i64 (x : Int) (w64 (shlI .i64 1 (i : Int) - 1))) = (ins x i b : Int) := by decide +kernel
/-! ### Monotone tables and games -/
def R (w n i b : Nat) : Nat := tabw (fun x => w.testBit (ins x i b)) (2 ^ (n - 1))
theorem R_lt (w n i b : Nat) (hn : n ≤ 5) : R w n i b < 9223372036854775808 :=
  Nat.lt_of_lt_of_le (tabw_lt _ _) (Nat.le_trans (Nat.pow_le_pow_right (by decide) (Nat.le_trans (Nat.pow_le_pow_right (by decide) (by omega : n - 1 ≤ 5)) (by decide : 2 ^ 5 ≤ 32))) (by decide))
def mono (w n i : Nat) : Bool := (R w n i 0 &&& R w n i 1) == R w n i 0
theorem flip_ins : ∀ n, n ≤ 5 → ∀ i, i < n → ∀ x, x < 2 ^ n → (x.testBit i = true ∨ (x = ins (del x i) i 0 ∧ x ^^^ 2 ^ i = ins (del x i) i 1 ∧ x ||| 2 ^ i = x ^^^ 2 ^ i ∧ x ^^^ 2 ^ i < 2 ^ n)) ∧ del x i < 2 ^ (n - 1) := by decide +kernel
theorem ins_bit : ∀ n, n ≤ 5 → ∀ i, i < n → ∀ y, y < 2 ^ (n - 1) → (ins y i 0).testBit i = false ∧ (ins y i 1).testBit i = true ∧ ins y i 0 < 2 ^ n ∧ ins y i 1 < 2 ^ n ∧ ins y i 0 ^^^ 2 ^ i = ins y i 1 := by decide +kernel
theorem mono_at (w n i x : Nat) (hn : n ≤ 5) (hi : i < n) (hx : x < 2 ^ n) (h : mono w n i = true) (hb : x.testBit i = false) : w.testBit x = true → w.testBit (x ^^^ 2 ^ i) = true := by
  intro h1
  obtain ⟨f1, f2⟩ := flip_ins n hn i hi x hx
  rcases f1 with f1 | ⟨g1, g2, _⟩
  · rw [hb] at f1; cases f1
  unfold mono at h
  have e := congrArg (fun z => z.testBit (del x i)) (eq_of_beq h)
  simp only [Nat.testBit_and, R, tabw_bit, decide_eq_true f2, Bool.true_and] at e
  rw [← g1, ← g2, h1] at e
  simpa using e

def game (w n : Nat) : Bool := allTo (mono w n) n && (!w.testBit 0 && w.testBit (2 ^ n - 1))
theorem wu_pow : ∀ n : Nat, n ≤ 5 → wu64 (shlI .u64 1 (n : Int) - 1) = ((2 ^ n - 1 : Nat) : Int) := by decide +kernel
/-! ### Minimal points -/
def minp (w _n x : Nat) (m : Nat) : Bool := w.testBit x && allTo (fun i => !x.testBit i || !w.testBit (x ^^^ 2 ^ i)) m
def picks (p : Nat → Bool) : Nat → List Int
  | 0 => []
  | m + 1 => cond (p m) (picks p m ++ [(m : Int)]) (picks p m)
theorem picks_len (p : Nat → Bool) : ∀ m, (picks p m).length ≤ m
  | 0 => by simp [picks]
  | m + 1 => by have := picks_len p m; simp only [picks]; cases p m <;> simp <;> omega
theorem picks_in (p : Nat → Bool) : ∀ m, m ≤ 1000 → ∀ x ∈ picks p m, in64 x
  | 0, _ => by simp [picks]
  | m + 1, h => by
    have h1 := picks_in p m (by omega)
    intro x hx
    simp only [picks] at hx
    cases hp : p m with
    | false => rw [hp] at hx; exact h1 x hx
    | true =>
      rw [hp, cond_true, List.mem_append, List.mem_singleton] at hx
      rcases hx with hx | rfl
      · exact h1 x hx
      · unfold in64; omega
theorem xor_smallG {n x i : Nat} (hi : i < n) (hx : x < 2 ^ n) : x ^^^ 2 ^ i < 2 ^ n := Nat.xor_lt_two_pow hx (Nat.pow_lt_pow_right (by decide) hi)
end Go.Proofs.YtfdggelojmofmaaDoor
namespace Go.Proofs.YtfdggelojmofmaaDoor
open Go.Rv
variable {β : Type}
def ltr (n : Nat) : Bool := decide (97 ≤ n) && decide (n < 102)
/-- A tree at the front, with no letter of a set: the tree and what is left. -/
def tt : Nat → List UInt8 → Nat → Option (Tr × List UInt8)
  | 0, _, _ => none
  | _ + 1, [], _ => none
  | F + 1, c :: r, m =>
    cond (c.toNat == 48 || c.toNat == 49) (some (.node c.toNat 0 .nil .nil, r))
      (cond (ltr c.toNat && !m.testBit (c.toNat - 97)) (match tt F r (m ||| 2 ^ (c.toNat - 97)) with
        | some (A, r1) => match tt F r1 (m ||| 2 ^ (c.toNat - 97)) with
          | some (C, r2) => some (.node c.toNat 0 A C, r2)
          | none => none
        | none => none) none)
theorem mask_small : ∀ m, m < 32 → ∀ j, j < 5 → m ||| 2 ^ j < 32 ∧ (m.testBit j = true ∨ ones (m ||| 2 ^ j) = ones m + 1) ∧ ones m ≤ 5 := by decide +kernel
theorem tt_spec : ∀ (F : Nat) (l : List UInt8) (m : Nat) (T : Tr) (r : List UInt8), m < 32 → tt F l m = some (T, r) → T.isNil = false ∧ l = tx T ++ r ∧ (tx T).length + 1 ≤ 2 ^ (6 - ones m) := by
  intro F
  induction F with
  | zero => intro l m T r _ h; cases h
  | succ F ih =>
    intro l m T r hm h
    cases l with
    | nil => cases h
    | cons c l =>
      have ho : ones m ≤ 5 := (mask_small m hm 0 (by decide)).2.2
      simp only [tt] at h
      cases h1 : (c.toNat == 48 || c.toNat == 49) with
      | true =>
        rw [h1, cond_true] at h
        cases h
        refine ⟨rfl, by simp [tx], ?_⟩
        have : 2 ^ 1 ≤ 2 ^ (6 - ones m) := Nat.pow_le_pow_right (by decide) (by omega)
        simpa [tx] using this
      | false =>
        rw [h1, cond_false] at h
        cases h2 : (ltr c.toNat && !m.testBit (c.toNat - 97)) with
        | false => rw [h2] at h; cases h
        | true =>
          rw [h2, cond_true] at h
          simp only [ltr, Bool.and_eq_true, decide_eq_true_eq, Bool.not_eq_true'] at h2
          obtain ⟨m1, m2, _⟩ := mask_small m hm (c.toNat - 97) (by omega)
          have m2 : ones (m ||| 2 ^ (c.toNat - 97)) = ones m + 1 := by
            rcases m2 with m2 | m2
            · rw [h2.2] at m2; cases m2
            · exact m2
          cases h4 : tt F l (m ||| 2 ^ (c.toNat - 97)) with
          | none => rw [h4] at h; cases h
          | some p =>
            obtain ⟨U, r1⟩ := p
            rw [h4] at h
            simp only at h
            cases h5 : tt F r1 (m ||| 2 ^ (c.toNat - 97)) with
            | none => rw [h5] at h; cases h
            | some q =>
              obtain ⟨V, r2⟩ := q
              rw [h5] at h
              cases h
              obtain ⟨_, k2, k3⟩ := ih _ _ _ _ m1 h4
              obtain ⟨_, k4, k5⟩ := ih _ _ _ _ m1 h5
              refine ⟨rfl, ?_, ?_⟩
              · simp only [tx, Int.toNat_natCast, UInt8.ofNat_toNat, List.cons_append, List.append_assoc]
                rw [← k4, ← k2]
              · rw [m2] at k3 k5
                have e : 2 ^ (6 - ones m) = 2 * 2 ^ (6 - (ones m + 1)) := by
                  rw [show 6 - ones m = (6 - (ones m + 1)) + 1 by omega, Nat.pow_succ]; omega
                simp only [tx, List.length_cons, List.length_append]
                omega

theorem variable_eq (N n : Nat) (h1 : 97 ≤ n) (h2 : n < 102) (k : Int → Int → Option β) : impl_tree_variable_g0 N (n : Int) k = k ((n - 97 : Nat) : Int) n := by
  unfold impl_tree_variable_g0
  have := w8_small (n - 97) (by omega)
  rw [show (n : Int) - 97 = ((n - 97 : Nat) : Int) by omega, this, w64_nat _ (by omega)]
theorem readTree_eq (N : Nat) : ∀ (F : Nat) (l : List UInt8) (m : Nat), l.length < F → m < 32 → ∀ k : Tr → ByteArray → Option β,
    impl_readTree_f N F (B l) (m : Int) k = match tt F l m with | some (T, r) => k T (B r) | none => k .nil (B []) := by
  intro F
  induction F with
  | zero => intro l m h; omega
  | succ F ih =>
    intro l m hF hm k
    cases l with
    | nil =>
      simp only [impl_readTree_f, impl_readTree_b, B_toList, B_nil, tt]
      rfl
    | cons c r =>
      simp only [List.length_cons] at hF
      simp only [impl_readTree_f, impl_readTree_b, B_toList, B_nil, B_bt0, B_tail]
      simp only [B_size]
      rw [show ((c :: r == []) : Bool) = false from rfl]
      simp only [cond_false]
      rw [gd_true (decide_eq_true (by simp only [List.length_cons]; omega)), gd_true (decide_eq_true (by simp only [List.length_cons]; omega)), isLetter_nat]
      have hn := B_lt c
      simp only [tt]
      generalize c.toNat = n at hn ⊢
      have e48 : ((n : Int) == 48) = (n == 48) := natb n 48
      have e49 : ((n : Int) == 49) = (n == 49) := natb n 49
      rw [e48, e49]
      cases h1 : n == 48 with
      | true => rfl
      | false =>
        cases h2 : n == 49 with
        | true => rfl
        | false =>
          simp only [cond_false, Bool.or_self]
          have el : (decide (97 ≤ n) && decide (n < 102)) = ltr n := rfl
          rw [el]
          cases h3 : ltr n with
          | false => rfl
          | true =>
            have h3' := h3
            simp only [ltr, Bool.and_eq_true, decide_eq_true_eq] at h3'
            simp only [Bool.not_true, cond_false, Bool.true_and]
            rw [variable_eq N n h3'.1 h3'.2, gd_true (decide_eq_true (Int.natCast_nonneg _)), bit_w m _ (by omega), bw_eq1]
            cases h4 : m.testBit (n - 97) with
            | true => rfl
            | false =>
              obtain ⟨m1, _, _⟩ := mask_small m hm (n - 97) (by omega)
              have hp : 2 ^ (n - 97) < 2 ^ 5 := Nat.pow_lt_pow_right (by decide) (by omega)
              simp only [cond_false, Bool.not_false, cond_true]
              rw [variable_eq N n h3'.1 h3'.2, gd_true (decide_eq_true (Int.natCast_nonneg _)), shl_one _ (by omega), bOr m _ (by omega) (by omega), ih r _ (by omega) m1]
              cases h5 : tt F r (m ||| 2 ^ (n - 97)) with
              | none => rfl
              | some p =>
                obtain ⟨A, r1⟩ := p
                obtain ⟨a1, a2, _⟩ := tt_spec _ _ _ _ _ m1 h5
                have hl : r1.length < F := by rw [a2] at hF; simp at hF; omega
                simp only
                rw [a1, cond_false, ih r1 _ hl m1]
                cases h6 : tt F r1 (m ||| 2 ^ (n - 97)) with
                | none => rfl
                | some q =>
                  obtain ⟨C, r2⟩ := q
                  obtain ⟨b1, _, _⟩ := tt_spec _ _ _ _ _ m1 h6
                  simp only
                  rw [b1, cond_false]
theorem l7End_eq (N : Nat) (l : List UInt8) (hl : l.length ≤ 1048576) : ∀ (F i m : Nat), l.length - i < F → i ≤ l.length → m < 32 → ∀ k : Int → Option β,
    spec_l7End_f N F (B l) (i : Int) (m : Int) k = match tt F (l.drop i) m with | some (_, r) => k ((l.length - r.length : Nat) : Int) | none => k (-1) := by
  intro F
  induction F with
  | zero => intro i m h; omega
  | succ F ih =>
    intro i m hF hi hm k
    simp only [spec_l7End_f, spec_l7End_b, B_size]
    rcases Nat.lt_or_ge i l.length with hlt | hge
    · rw [decide_eq_false (show ¬ (i : Int) ≥ (l.length : Int) by omega), B_bt l i hlt, drop_at l i hlt]
      have hlen : (l.drop (i + 1)).length = l.length - (i + 1) := List.length_drop
      have g1 : decide ((0 : Int) ≤ (i : Int)) = true := decide_eq_true (by omega)
      have g2 : decide ((i : Int) < (l.length : Int)) = true := decide_eq_true (by omega)
      simp only [cond_false, g1, g2, gd, cond_true]
      rw [show w64 ((i : Int) + 1) = ((i + 1 : Nat) : Int) by rw [w64_id] <;> omega]
      have leaf : (i + 1 : Nat) = l.length - (l.drop (i + 1)).length := by omega
      have hn := B_lt l[i]
      simp only [tt]
      generalize l[i].toNat = n at hn ⊢
      have e48 : ((n : Int) == 48) = (n == 48) := natb n 48
      have e49 : ((n : Int) == 49) = (n == 49) := natb n 49
      rw [e48, e49]
      cases h1 : n == 48 with
      | true =>
        simp only [cond_true, Bool.true_or]
        rw [← leaf]
      | false =>
        cases h2 : n == 49 with
        | true =>
          simp only [cond_true, cond_false, Bool.or_true]
          rw [← leaf]
        | false =>
          simp only [cond_false, Bool.or_self]
          rw [show w64 (w64 (n : Int) - 97) = (n : Int) - 97 by rw [w64_id (x := (n : Int)) (by omega) (by omega), w64_id (by omega) (by omega)], spec_l1In_eq]
          have el : (decide ((0 : Int) ≤ (n : Int) - 97) && decide ((n : Int) - 97 ≤ 4)) = ltr n := by
            unfold ltr
            congr 1
            · by_cases h : 97 ≤ n
              · rw [decide_eq_true h, decide_eq_true (by omega)]
              · rw [decide_eq_false h, decide_eq_false (by omega)]
            · by_cases h : n < 102
              · rw [decide_eq_true h, decide_eq_true (by omega)]
              · rw [decide_eq_false h, decide_eq_false (by omega)]
          rw [el]
          cases h3 : ltr n with
          | false => rfl
          | true =>
            have h3' := h3
            simp only [ltr, Bool.and_eq_true, decide_eq_true_eq] at h3'
            simp only [Bool.not_true, cond_false, Bool.true_and]
            rw [show (n : Int) - 97 = ((n - 97 : Nat) : Int) by omega, decide_eq_true (Int.natCast_nonneg (n - 97)), bit_w m _ (by omega), bw_eq1]
            simp only [cond_true]
            cases h4 : m.testBit (n - 97) with
            | true => rfl
            | false =>
              obtain ⟨m1, _, _⟩ := mask_small m hm (n - 97) (by omega)
              have hp : 2 ^ (n - 97) < 2 ^ 5 := Nat.pow_lt_pow_right (by decide) (by omega)
              simp only [cond_false, Bool.not_false, cond_true]
              rw [shl_one _ (by omega), bOr m _ (by omega) (by omega), ih (i + 1) _ (by omega) (by omega) m1]
              cases h5 : tt F (l.drop (i + 1)) (m ||| 2 ^ (n - 97)) with
              | none => rfl
              | some p =>
                obtain ⟨A, r1⟩ := p
                obtain ⟨_, a2, _⟩ := tt_spec _ _ _ _ _ m1 h5
                obtain ⟨s1, s2, s3, s4⟩ := suffix_at a2 (by omega)
                simp only
                rw [decide_eq_false (by omega), cond_false, ih _ _ (by omega) s2 m1, s1]
                cases tt F r1 (m ||| 2 ^ (n - 97)) <;> rfl
    · rw [decide_eq_true (show (i : Int) ≥ (l.length : Int) by omega), cond_true, List.drop_eq_nil_of_le hge]
      rfl

def isTree (N : Nat) (l : List UInt8) : Bool := match tt N l 0 with | some (_, []) => true | _ => false
theorem isTree_len (N : Nat) (l : List UInt8) (h : isTree N l = true) : l.length ≤ 63 := by
  unfold isTree at h
  split at h
  · rename_i T hp
    obtain ⟨_, a2, a3⟩ := tt_spec _ _ _ _ _ (by decide) hp
    have e : 2 ^ (6 - ones 0) = 64 := by decide
    rw [e] at a3
    rw [a2, List.append_nil]; omega
  · cases h
theorem spec_IsTree_eq (N : Nat) (hN : 1048576 < N) (l : List UInt8) (hl : l.length ≤ 1048576) (k : Bool → Option β) : spec_IsTree N (B l) k = k (isTree N l) := by
  unfold spec_IsTree
  rw [B_size]
  by_cases h : l.length ≤ 63
  · rw [decide_eq_true (show (l.length : Int) ≤ 63 by omega), cond_true]
    by_cases h0 : l.length = 0
    · have : l = [] := List.eq_nil_of_length_eq_zero h0
      subst this
      obtain ⟨M, rfl⟩ : ∃ M, N = M + 1 := ⟨N - 1, by omega⟩
      rfl
    · rw [decide_eq_true (show (l.length : Int) > 0 by omega), cond_true]
      have := fun k => l7End_eq (β := β) N l hl N 0 0 (by omega) (by omega) (by decide) k
      simp only [Int.natCast_zero, List.drop_zero] at this
      unfold spec_l7End isTree
      rw [this]
      cases hp : tt N l 0 with
      | none => exact congrArg k (beq_eq_false_iff_ne.2 (by omega))
      | some p =>
        obtain ⟨T, r⟩ := p
        obtain ⟨_, a2, _⟩ := tt_spec _ _ _ _ _ (by decide) hp
        cases r with
        | nil => simp
        | cons c r =>
          simp only [List.length_cons]
          congr 1
          refine beq_eq_false_iff_ne.2 ?_
          have : (tx T ++ c :: r).length = l.length := by rw [← a2]
          simp at this
          omega
  · rw [decide_eq_false (show ¬ (l.length : Int) ≤ 63 by omega), cond_false]
    cases ht : isTree N l with
    | false => rfl
    | true => exact absurd (isTree_len N l ht) h
end Go.Proofs.YtfdggelojmofmaaDoor
