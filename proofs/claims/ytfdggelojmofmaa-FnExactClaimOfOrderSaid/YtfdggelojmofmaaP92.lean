/- Plain laws of the texts. -/
import Derived.Test.YtfdggelojmofmaaP91
import Derived.Test.YtfdggelojmofmaaRvNum
namespace Go.Proofs.Ytfdggelojmofmaa
open Go.Rv
variable {β : Type}
def B (l : List UInt8) : ByteArray := ⟨l.toArray⟩
theorem B_data (s : ByteArray) : B s.data.toList = s := by cases s; simp [B]
theorem B_size (l : List UInt8) : (B l).size = l.length := by simp [B, ByteArray.size]
theorem B_inj {a b : ByteArray} (h : a.data.toList = b.data.toList) : a = b := by rw [← B_data a, ← B_data b, h]
theorem B_toList (l : List UInt8) : (B l).toList = l := Go.ByteArray.toList_mk l
theorem B_list (l : List UInt8) : (B l).data.toList = l := by simp [B]
theorem B_app (l m : List UInt8) : B l ++ B m = B (l ++ m) := by
  apply B_inj
  rw [ByteArray.toList_data_append]
  simp [B]
theorem B_ext (l : List UInt8) (a b : Nat) : (B l).extract a b = B ((l.take b).drop a) := by
  apply B_inj
  rw [ByteArray.data_extract]
  simp [B, List.drop_take, List.extract_eq_take_drop]
theorem B_nil : ByteArray.empty = B [] := rfl
theorem B_one (n : Int) : strOf (([] : List Int) ++ [n]) = B [UInt8.ofNat n.toNat] := by
  simp [strOf, B]
theorem B_strOf (l : List Int) : strOf l = B (l.map fun n => UInt8.ofNat n.toNat) := by simp [strOf, B]
theorem B_bt (l : List UInt8) (i : Nat) (h : i < l.length) : bt (B l) (i : Int) = (l[i].toNat : Int) := by
  simp [bt, B, List.getD, List.getElem?_eq_getElem h]
theorem B_bt0 (c : UInt8) (r : List UInt8) : bt (B (c :: r)) 0 = (c.toNat : Int) := by simp [bt, B]
theorem B_tail (c : UInt8) (r : List UInt8) : (B (c :: r)).extract (Int.toNat 1) (B (c :: r)).size = B r := by
  rw [B_ext, B_size]
  simp
theorem B_lt (c : UInt8) : c.toNat < 256 := c.toNat_lt
end Go.Proofs.Ytfdggelojmofmaa
namespace Go.Proofs.Ytfdggelojmofmaa
open Go.Rv
variable {β : Type}
/-- A loop that counts up. -/
theorem loop_st (g : Nat → Nat → Option β) (m : Nat) (r : Option β) (hs : ∀ F i, i < m → g (F + 1) i = g F (i + 1)) (he : ∀ F, g (F + 1) m = r) :
    ∀ (F i : Nat), i ≤ m → m - i < F → g F i = r := by
  intro F
  induction F with
  | zero => intro i _ h; omega
  | succ F ih =>
    intro i hi hF
    rcases Nat.lt_or_ge i m with h | h
    · rw [hs F i h]; exact ih (i + 1) h (by omega)
    · have : i = m := by omega
      subst this; exact he F

/-- A loop that counts up from a place. -/
theorem loop_from (g : Nat → Nat → Option β) (i0 m : Nat) (r : Option β) (hs : ∀ F i, i0 ≤ i → i < m → g (F + 1) i = g F (i + 1)) (he : ∀ F, g (F + 1) m = r) :
    ∀ (F i : Nat), i0 ≤ i → i ≤ m → m - i < F → g F i = r := by
  intro F
  induction F with
  | zero => intro i _ _ h; omega
  | succ F ih =>
    intro i h0 hi hF
    rcases Nat.lt_or_ge i m with h | h
    · rw [hs F i h0 h]; exact ih (i + 1) (by omega) h (by omega)
    · have : i = m := by omega
      subst this; exact he F

def sumTo (h : Nat → Int) : Nat → Int
  | 0 => 0
  | m + 1 => sumTo h m + h m
theorem sumTo_le (h : Nat → Int) (hb : ∀ i, -1 ≤ h i ∧ h i ≤ 1) : ∀ m : Nat, -(m : Int) ≤ sumTo h m ∧ sumTo h m ≤ (m : Int)
  | 0 => by simp [sumTo]
  | m + 1 => by have := sumTo_le h hb m; have := hb m; simp only [sumTo]; omega

def sg (m : Nat) : Int := if m % 2 = 1 then -1 else 1
theorem sg_add (a b : Nat) : sg (a + b) = sg a * sg b := by
  unfold sg
  rcases Nat.mod_two_eq_zero_or_one a with h1 | h1 <;> rcases Nat.mod_two_eq_zero_or_one b with h2 | h2 <;> simp [h1, h2, Nat.add_mod]
theorem sg_range (a b : Nat) : -1 ≤ sg a * sg b ∧ sg a * sg b ≤ 1 := by
  rw [← sg_add]
  unfold sg
  split <;> simp
def bw (w x : Nat) : Nat := if w.testBit x then 1 else 0
theorem ones_bw (w x : Nat) : ones (bw w x) = bw w x := by
  unfold bw
  split <;> rfl
theorem bw_le (w x : Nat) : bw w x ≤ 1 := by unfold bw; split <;> omega

/-- The term of a set and an input. -/
def tm (w u x : Nat) : Int := sg (bw w x) * sg (ones (u &&& x))
theorem tm_range (w u x : Nat) : -1 ≤ tm w u x ∧ tm w u x ≤ 1 := sg_range _ _
def sps (w n m : Nat) : List Int := (List.range m).map fun u => sumTo (tm w u) (2 ^ n)
theorem sps_len (w n m : Nat) : (sps w n m).length = m := by simp [sps]
theorem sps_succ (w n m : Nat) : sps w n (m + 1) = sps w n m ++ [sumTo (tm w m) (2 ^ n)] := by simp [sps, List.range_succ]
theorem isTn {n w : Nat} (hn : n ≤ 5) (hw : w < 2 ^ 2 ^ n) : isT (n : Int) (w : Int) = true := by
  have h4 : ((w : Nat) : Int) < 2 ^ 2 ^ n := by exact_mod_cast hw
  simp only [isT, Bool.and_eq_true, decide_eq_true_eq, Int.toNat_natCast]
  exact ⟨⟨⟨by omega, by omega⟩, by omega⟩, h4⟩
theorem w_small {n w : Nat} (hn : n ≤ 5) (hw : w < 2 ^ 2 ^ n) : w < 4294967296 :=
  Nat.lt_of_lt_of_le hw (Nat.le_trans (Nat.pow_le_pow_right (by decide) (size_le hn)) (by decide))

theorem rd_mid (p : List Int) (y : Int) (r : List Int) : rd 0 (p ++ y :: r) (p.length : Int) = y := by
  simp [rd, List.getD]
theorem wr_mid {α : Type} (p : List α) (y z : α) (r : List α) : wr (p ++ y :: r) (p.length : Int) z = p ++ z :: r := by
  simp [wr]

theorem impl_Table_size_eq (N n : Nat) (w : Int) (hn : n ≤ 5) (k : Int → Option β) : impl_Table_size N (n : Int) w k = k ((2 ^ n : Nat) : Int) := by
  unfold impl_Table_size
  rw [gd_true (decide_eq_true (by omega)), shl_one n (by omega)]
theorem impl_Table_at_eq (N w x : Nat) (n : Int) (hw : w < 4294967296) (k : Int → Option β) : impl_Table_at N n (w : Int) (x : Int) k = k (bw w x : Int) := by
  unfold impl_Table_at
  rw [gd_true (decide_eq_true (by omega)), bit_at w x (by omega)]
  rfl

/-! ### Energies -/
def en (l z : List Int) : Nat → List Int
  | 0 => z
  | i + 1 => wr (en l z i) (ones i : Int) (w64 (rd 0 (en l z i) (ones i : Int) + w64 (rd 0 l (i : Int) * rd 0 l (i : Int))))
theorem en_len (l z : List Int) : ∀ i, (en l z i).length = z.length
  | 0 => rfl
  | i + 1 => by simp [en, wr, en_len l z i]
theorem ones_small : ∀ n, n ≤ 5 → ∀ i, i < 2 ^ n → ones i ≤ n := by decide +kernel

/-! ### Nonlinearity -/
def pkS (l : List Int) : Nat → Int
  | 0 => 0
  | i + 1 => mxI (pkS l i) (mxI (rd 0 l (i : Int)) (w64 (0 - rd 0 l (i : Int))))
def nonl (w n : Nat) : Int := quoI .i64 (w64 (((2 ^ n : Nat) : Int) - pkS (sps w n (2 ^ n)) (2 ^ n))) 2
theorem two_pos (n : Nat) : 0 < 2 ^ n := Nat.pow_pos (by decide)
/-! ### Immunity -/
def ci (l : List Int) (n : Int) : Nat → Int
  | 0 => n
  | i + 1 => cond (decide (0 < i) && (rd 0 l (i : Int) != 0)) (mnI (ci l n i) (w64 ((ones i : Int) - 1))) (ci l n i)
/-! ### Rejects -/
def rj (w x y : Nat) : Int := bits .xor .i64 (bits .xor .i64 (bw w x : Int) (bw w y : Int)) (bw w (x ^^^ y) : Int)
def rj2 (w x : Nat) (s : Int) : Nat → Int
  | 0 => s
  | y + 1 => w64 (rj2 w x s y + rj w x y)
def rj1 (w m : Nat) : Nat → Int
  | 0 => 0
  | x + 1 => rj2 w x (rj1 w m x) m
theorem bit3 (w x y z : Nat) (hw : w < 4294967296) : bits .and .i64 (bits .xor .i64 (bits .xor .i64 (shrI .i64 (w : Int) (x : Int)) (shrI .i64 (w : Int) (y : Int))) (shrI .i64 (w : Int) (z : Int))) 1 = bits .xor .i64 (bits .xor .i64 (bw w x : Int) (bw w y : Int)) (bw w z : Int) := by
  have hx := Nat.div_le_self w (2 ^ x); have hy := Nat.div_le_self w (2 ^ y); have hz := Nat.div_le_self w (2 ^ z)
  have b1 := bw_le w x; have b2 := bw_le w y; have b3 := bw_le w z
  have e : ∀ i, bw w i = w / 2 ^ i % 2 := fun i => by
    unfold bw
    rw [Nat.testBit_eq_decide_div_mod_eq]
    rcases Nat.mod_two_eq_zero_or_one (w / 2 ^ i) with h | h <;> simp [h]
  have c1 : w / 2 ^ x ^^^ w / 2 ^ y < 2 ^ 32 := Nat.xor_lt_two_pow (by omega) (by omega)
  have c2 : (w / 2 ^ x ^^^ w / 2 ^ y) ^^^ w / 2 ^ z < 2 ^ 32 := Nat.xor_lt_two_pow c1 (by omega)
  have d1 : bw w x ^^^ bw w y < 2 ^ 1 := Nat.xor_lt_two_pow (by omega) (by omega)
  rw [shr_nat w x (by omega), shr_nat w y (by omega), shr_nat w z (by omega), bXor _ _ (by omega) (by omega), bXor _ _ (by omega) (by omega), show (1 : Int) = ((1 : Nat) : Int) from rfl, bAnd _ _ (by omega) (by omega), bXor _ _ (by omega) (by omega), bXor _ _ (by omega) (by omega)]
  congr 1
  rw [Nat.and_one_is_mod, e x, e y, e z]
  have m2 : ∀ a b : Nat, (a ^^^ b) % 2 = (a % 2) ^^^ (b % 2) := fun a b => by
    have := Nat.xor_mod_two_pow (a := a) (b := b) (n := 1)
    simpa using this
  rw [m2, m2]
end Go.Proofs.Ytfdggelojmofmaa
namespace Go.Proofs.Ytfdggelojmofmaa
open Go.Rv
variable {β : Type}
def in64 (n : Int) : Prop := -9223372036854775808 ≤ n ∧ n ≤ 9223372036854775807
theorem w64_in (x : Int) : in64 (w64 x) := by
  show -9223372036854775808 ≤ IntKind.wrap .i64 x ∧ _
  rw [show w64 x = IntKind.wrap .i64 x from rfl, IntKind.wrap_i64]
  omega

def dgs (m : Nat) : List UInt8 := if m = 0 then [] else Lib.decDigits m
theorem dgs_step (m : Nat) (h : 0 < m) : dgs m = dgs (m / 10) ++ [UInt8.ofNat (48 + m % 10)] := by
  unfold dgs
  rw [if_neg (by omega)]
  by_cases h1 : m < 10
  · rw [Lib.decDigits, dif_pos h1, if_pos (by omega), Nat.mod_eq_of_lt h1]
    rfl
  · rw [if_neg (by omega), Lib.decDigits, dif_neg h1]
theorem dgs_len : ∀ (d m : Nat), m < 10 ^ d → (dgs m).length ≤ d := by
  intro d
  induction d with
  | zero => intro m h; have : m = 0 := by simpa using h
            subst this; simp [dgs]
  | succ d ih =>
    intro m h
    by_cases h0 : m = 0
    · subst h0; simp [dgs]
    · rw [dgs_step m (by omega)]
      have := ih (m / 10) (by rw [Nat.pow_succ] at h; omega)
      simp
      exact this

def sgn (s : Bool) (m : Nat) : Int := cond s (-(m : Int)) m
theorem rem_sgn (s : Bool) (m : Nat) : remI (sgn s m) 10 = sgn s (m % 10) := by
  cases s with
  | false => rfl
  | true =>
    show (-(m : Int)).tmod 10 = -((m % 10 : Nat) : Int)
    rw [Int.neg_tmod]
    rfl
theorem quo_sgn (s : Bool) (m : Nat) (h : m ≤ 9223372036854775808) : quoI .i64 (sgn s m) 10 = sgn s (m / 10) := by
  show w64 ((sgn s m).tdiv 10) = _
  have e : (sgn s m).tdiv 10 = sgn s (m / 10) := by
    cases s with
    | false => rfl
    | true =>
      show (-(m : Int)).tdiv 10 = -((m / 10 : Nat) : Int)
      rw [Int.neg_tdiv]
      rfl
  rw [e]
  cases s <;> simp only [sgn, cond_true, cond_false] <;> rw [w64_id] <;> omega

theorem w8_small (n : Nat) (h : n < 256) : w8 (n : Int) = n := by
  have := IntKind.wrap_u8 (n : Int)
  show IntKind.wrap .u8 (n : Int) = n
  rw [this]
  omega

theorem itoaB_eq (n : Int) : itoaB n = B (Lib.itoa n) := rfl
theorem pow19 : (9223372036854775808 : Nat) < 10 ^ 19 := by decide
theorem itoa_len (n : Int) (h : in64 n) : (Lib.itoa n).length ≤ 20 ∧ 0 < (Lib.itoa n).length := by
  have key : ∀ m : Nat, m ≤ 9223372036854775808 → (Lib.decDigits m).length ≤ 19 ∧ 0 < (Lib.decDigits m).length := by
    intro m hm
    by_cases h0 : m = 0
    · subst h0; rw [Lib.decDigits, dif_pos (by decide)]; simp
    · have e : dgs m = Lib.decDigits m := if_neg h0
      rw [← e]
      refine ⟨dgs_len 19 m (Nat.lt_of_le_of_lt hm pow19), ?_⟩
      rw [dgs_step m (by omega)]
      simp
  obtain ⟨h1, h2⟩ := h
  unfold Lib.itoa
  split
  · have := key n.natAbs (by omega)
    simp; omega
  · have := key n.toNat (by omega)
    omega

/-! ### Lists of numbers -/
def jn (l : List Int) : Nat → List UInt8
  | 0 => []
  | i + 1 => cond (decide (0 < i)) (jn l i ++ [44]) (jn l i) ++ Lib.itoa (rd 0 l (i : Int))
def textL (l : List Int) : List UInt8 := if l = [] then [110, 111, 110, 101] else jn l l.length
theorem rd_in (l : List Int) (hr : ∀ x ∈ l, in64 x) (i : Nat) (h : i < l.length) : in64 (rd 0 l (i : Int)) := by
  rw [rd_nat 0 l i h]
  exact hr _ (List.getElem_mem h)
theorem jn_len (l : List Int) (hr : ∀ x ∈ l, in64 x) : ∀ i, i ≤ l.length → (jn l i).length ≤ 21 * i ∧ (0 < i → 0 < (jn l i).length)
  | 0, _ => by simp [jn]
  | i + 1, h => by
    have h1 := jn_len l hr i (by omega)
    have h2 := itoa_len _ (rd_in l hr i (by omega))
    simp only [jn]
    cases decide (0 < i) <;> simp only [cond_true, cond_false, List.length_append, List.length_cons, List.length_nil] <;> omega
theorem textL_len (l : List Int) (hr : ∀ x ∈ l, in64 x) : (textL l).length ≤ 21 * l.length + 4 := by
  unfold textL
  split
  · simp
  · have := jn_len l hr l.length (Nat.le_refl _); omega

theorem jn_join (l : List Int) : ∀ (x : Int) (i : Nat), i ≤ l.length → jn (x :: l) (i + 1) = Lib.itoa x ++ Lib.joinTail [44] ((l.map Lib.itoa).take i) := by
  intro x i
  induction i with
  | zero =>
    intro _
    simp [jn, Lib.joinTail, rd, List.getD]
  | succ i ih =>
    intro h
    have e : (l.map Lib.itoa)[i]? = some (Lib.itoa l[i]) := by rw [List.getElem?_map, List.getElem?_eq_getElem (by omega)]; rfl
    rw [Lib.joinTail_take_succ [44] _ i _ e]
    have e2 : jn (x :: l) (i + 1 + 1) = jn (x :: l) (i + 1) ++ [44] ++ Lib.itoa (rd 0 (x :: l) ((i + 1 : Nat) : Int)) := rfl
    rw [e2, ih (by omega), rd_nat 0 (x :: l) (i + 1) (by simp; omega)]
    simp
theorem textL_join (l : List Int) (h : l ≠ []) : textL l = Lib.join (l.map Lib.itoa) [44] := by
  unfold textL
  rw [if_neg h]
  cases l with
  | nil => exact absurd rfl h
  | cons x l =>
    rw [List.length_cons, jn_join l x l.length (Nat.le_refl _), List.map_cons, Lib.join_cons, List.take_of_length_le (by simp)]
end Go.Proofs.Ytfdggelojmofmaa
namespace Go.Proofs.Ytfdggelojmofmaa
open Go.Rv
variable {β : Type}
theorem natq (n m : Nat) : ((n : Int) == (m : Int)) = (n == m) := by
  by_cases h : n = m
  · subst h; simp
  · rw [beq_eq_false_iff_ne.2 h, beq_eq_false_iff_ne.2 (by omega)]
theorem bw_eq0 (w x : Nat) : ((bw w x : Int) == 0) = !w.testBit x := by unfold bw; cases w.testBit x <;> rfl
theorem bw_eq1 (w x : Nat) : ((bw w x : Int) == 1) = w.testBit x := by unfold bw; cases w.testBit x <;> rfl
theorem bw_ne1 (w x : Nat) : ((bw w x : Int) != 1) = !w.testBit x := by unfold bw; cases w.testBit x <;> rfl
theorem bw_ne (w x y : Nat) : ((bw w x : Int) != (bw w y : Int)) = (w.testBit x != w.testBit y) := by unfold bw; cases w.testBit x <;> cases w.testBit y <;> rfl
theorem bit_w (w x : Nat) (hw : w < 9223372036854775808) : bits .and .i64 (shrI .i64 (w : Int) (x : Int)) 1 = (bw w x : Int) := bit_at w x hw

/-- That all below a number are such. -/
def allTo (p : Nat → Bool) : Nat → Bool
  | 0 => true
  | m + 1 => allTo p m && p m
theorem allTo_spec {p : Nat → Bool} : ∀ {m : Nat}, allTo p m = true → ∀ i, i < m → p i = true
  | 0, _, i, h => by omega
  | m + 1, h, i, hi => by
    simp only [allTo, Bool.and_eq_true] at h
    rcases Nat.lt_or_ge i m with h1 | h1
    · exact allTo_spec h.1 i h1
    · have : i = m := by omega
      subst this; exact h.2
theorem allTo_of {p : Nat → Bool} : ∀ {m : Nat}, (∀ i, i < m → p i = true) → allTo p m = true
  | 0, _ => rfl
  | m + 1, h => by
    simp only [allTo, Bool.and_eq_true]
    exact ⟨allTo_of fun i hi => h i (by omega), h m (by omega)⟩
theorem allTo_eq {p q : Nat → Bool} {m m' : Nat} (h : (∀ i, i < m → p i = true) ↔ (∀ i, i < m' → q i = true)) : allTo p m = allTo q m' := by
  cases h1 : allTo p m with
  | true => exact (allTo_of (h.1 (allTo_spec h1))).symm
  | false =>
    cases h2 : allTo q m' with
    | false => rfl
    | true => rw [allTo_of (h.2 (allTo_spec h2))] at h1; cases h1
/-- A loop that leaves at the first that is not such. -/
theorem loop_all (g : Nat → Nat → Option β) (p : Nat → Bool) (m : Nat) (r0 r1 : Option β) (hs : ∀ F i, i < m → g (F + 1) i = cond (p i) (g F (i + 1)) r0) (he : ∀ F, g (F + 1) m = r1) :
    ∀ F, m < F → g F 0 = cond (allTo p m) r1 r0 := by
  have key : ∀ (F i : Nat), i ≤ m → m - i < F → allTo p i = true → g F i = cond (allTo p m) r1 r0 := by
    intro F
    induction F with
    | zero => intro i _ h; omega
    | succ F ih =>
      intro i hi hF ha
      rcases Nat.lt_or_ge i m with h | h
      · rw [hs F i h]
        cases hp : p i with
        | true => exact ih (i + 1) h (by omega) (by simp only [allTo, ha, hp, Bool.and_self])
        | false =>
          have : allTo p m = false := by
            cases hm : allTo p m with
            | false => rfl
            | true => rw [allTo_spec hm i h] at hp; cases hp
          rw [this]; rfl
      · have : i = m := by omega
        subst this
        rw [he, ha]; rfl
  intro F hF
  exact key F 0 (Nat.zero_le _) (by omega) rfl

theorem xor_zero {a b : Nat} (h : a ^^^ b = 0) : a = b := by
  have : a ^^^ b ^^^ b = b := by rw [h, Nat.zero_xor]
  rwa [Nat.xor_assoc, Nat.xor_self, Nat.xor_zero] at this
theorem bit_eq1 (c : Bool) : (((if c then 1 else 0 : Nat) : Int) == 1) = c := by cases c <;> rfl
theorem spread_sm : ∀ x : Nat, x < 16 → ∀ i : Nat, i < 5 → ∀ b : Nat, b < 2 → bits .or .i64 (bits .or .i64 (shlI .i64 (w64 ((x : Int) - bits .and .i64 (x : Int) (w64 (shlI .i64 1 (i : Int) - 1)))) 1) (shlI .i64 (b : Int) (i : Int))) (bits .and .i64 (x : Int) (w64 (shlI .i64 1 (i : Int) - 1))) = (ins x i b : Int) := by decide +kernel
theorem impl_restr_eq (N : Nat) (hN : 64 < N) (n w i b : Nat) (hn : n ≤ 5) (hi : i < n) (hw : w < 4294967296) (hb : b < 2) (k : Int → Int → Option β) :
    impl_Table_restrict N (n : Int) (w : Int) (i : Int) (b : Int) k = k ((n - 1 : Nat) : Int) (tabw (fun x => w.testBit (ins x i b)) (2 ^ (n - 1)) : Int) := by
  unfold impl_Table_restrict
  have hs : 2 ^ (n - 1) ≤ 16 := Nat.le_trans (Nat.pow_le_pow_right (by decide) (by omega : n - 1 ≤ 4)) (by decide)
  rw [show (n : Int) - 1 = ((n - 1 : Nat) : Int) by omega, w64_nat _ (by omega), makeTable_eq N hN (n - 1) (by omega) _ (fun x => w.testBit (ins x i b)) fun x k hx => ?_]
  unfold impl_Table_restrict_1 impl_spread impl_Table_at
  rw [gd_true (decide_eq_true (by omega : (0 : Int) ≤ (i : Int))), gd_true (decide_eq_true (by omega : (0 : Int) ≤ (i : Int))), spread_sm x (by omega) i (by omega) b hb]
  show gd (decide ((0 : Int) ≤ ((ins x i b : Nat) : Int))) (k (bits .and .i64 (shrI .i64 (w : Int) ((ins x i b : Nat) : Int)) 1 == 1)) = _
  rw [gd_true (decide_eq_true (Int.natCast_nonneg _)), bit_at w _ (by omega), bit_eq1]
theorem impl_deps_eq (N : Nat) (hN : 64 < N) (n w i : Nat) (hn : n ≤ 5) (hi : i < n) (hw : w < 4294967296) (k : Bool → Option β) : impl_Table_depends N (n : Int) (w : Int) (i : Int) k = k (dep w n i) := by
  unfold impl_Table_depends
  have e0 := fun k => impl_restr_eq (β := β) N hN n w i 0 hn hi hw (by decide) k
  have e1 := fun k => impl_restr_eq (β := β) N hN n w i 1 hn hi hw (by decide) k
  simp only [Int.natCast_zero] at e0
  have e1 : ∀ k : Int → Int → Option β, impl_Table_restrict N (n : Int) (w : Int) (i : Int) 1 k = k ((n - 1 : Nat) : Int) (tabw (fun x => w.testBit (ins x i 1)) (2 ^ (n - 1)) : Int) := e1
  simp only [e0, e1]
  congr 1
  unfold dep
  rw [beq_self_eq_true, Bool.true_and, bne]
  congr 1
  rw [Bool.eq_iff_iff, beq_iff_eq, beq_iff_eq]
  omega
/-! ### Monotone tables and games -/
def R (w n i b : Nat) : Nat := tabw (fun x => w.testBit (ins x i b)) (2 ^ (n - 1))
theorem R_lt (w n i b : Nat) (hn : n ≤ 5) : R w n i b < 9223372036854775808 :=
  Nat.lt_of_lt_of_le (tabw_lt _ _) (Nat.le_trans (Nat.pow_le_pow_right (by decide) (Nat.le_trans (Nat.pow_le_pow_right (by decide) (by omega : n - 1 ≤ 5)) (by decide : 2 ^ 5 ≤ 32))) (by decide))
def mono (w n i : Nat) : Bool := (R w n i 0 &&& R w n i 1) == R w n i 0
theorem flip_ins : ∀ n, n ≤ 5 → ∀ i, i < n → ∀ x, x < 2 ^ n → (x.testBit i = true ∨ (x = ins (del x i) i 0 ∧ x ^^^ 2 ^ i = ins (del x i) i 1 ∧ x ||| 2 ^ i = x ^^^ 2 ^ i ∧ x ^^^ 2 ^ i < 2 ^ n)) ∧ del x i < 2 ^ (n - 1) := by decide +kernel
theorem ins_bit : ∀ n, n ≤ 5 → ∀ i, i < n → ∀ y, y < 2 ^ (n - 1) → (ins y i 0).testBit i = false ∧ (ins y i 1).testBit i = true ∧ ins y i 0 < 2 ^ n ∧ ins y i 1 < 2 ^ n ∧ ins y i 0 ^^^ 2 ^ i = ins y i 1 := by decide +kernel
theorem mono_at (w n i x : Nat) (hn : n ≤ 5) (hi : i < n) (hx : x < 2 ^ n) (h : mono w n i = true) (hb : x.testBit i = false) : w.testBit x = true → w.testBit (x ^^^ 2 ^ i) = true := by
  intro h1
  obtain ⟨f1, f2⟩ := flip_ins n hn i hi x hx
  rcases f1 with f1 | ⟨g1, g2, _⟩
  · rw [hb] at f1; cases f1
  unfold mono at h
  have e := congrArg (fun z => z.testBit (del x i)) (eq_of_beq h)
  simp only [Nat.testBit_and, R, tabw_bit, decide_eq_true f2, Bool.true_and] at e
  rw [← g1, ← g2, h1] at e
  simpa using e

def game (w n : Nat) : Bool := allTo (mono w n) n && (!w.testBit 0 && w.testBit (2 ^ n - 1))
theorem wu_pow : ∀ n : Nat, n ≤ 5 → wu64 (shlI .u64 1 (n : Int) - 1) = ((2 ^ n - 1 : Nat) : Int) := by decide +kernel
/-! ### Minimal points -/
def minp (w _n x : Nat) (m : Nat) : Bool := w.testBit x && allTo (fun i => !x.testBit i || !w.testBit (x ^^^ 2 ^ i)) m
def picks (p : Nat → Bool) : Nat → List Int
  | 0 => []
  | m + 1 => cond (p m) (picks p m ++ [(m : Int)]) (picks p m)
theorem picks_len (p : Nat → Bool) : ∀ m, (picks p m).length ≤ m
  | 0 => by simp [picks]
  | m + 1 => by have := picks_len p m; simp only [picks]; cases p m <;> simp <;> omega
theorem picks_in (p : Nat → Bool) : ∀ m, m ≤ 1000 → ∀ x ∈ picks p m, in64 x
  | 0, _ => by simp [picks]
  | m + 1, h => by
    have h1 := picks_in p m (by omega)
    intro x hx
    simp only [picks] at hx
    cases hp : p m with
    | false => rw [hp] at hx; exact h1 x hx
    | true =>
      rw [hp, cond_true, List.mem_append, List.mem_singleton] at hx
      rcases hx with hx | rfl
      · exact h1 x hx
      · unfold in64; omega
theorem xor_smallG {n x i : Nat} (hi : i < n) (hx : x < 2 ^ n) : x ^^^ 2 ^ i < 2 ^ n := Nat.xor_lt_two_pow hx (Nat.pow_lt_pow_right (by decide) hi)
end Go.Proofs.Ytfdggelojmofmaa
namespace Go.Proofs.Ytfdggelojmofmaa
open Go.Rv
set_option linter.unusedVariables false
variable {β : Type}
theorem sz4 {n : Nat} (h : n ≤ 4) : 2 ^ n ≤ 16 := Nat.le_trans (Nat.pow_le_pow_right (by decide) h) (by decide)
/-- That all from a place on are such. -/
def allF (p : Nat → Bool) : Nat → Nat → Bool
  | 0, _ => true
  | d + 1, i => p i && allF p d (i + 1)
theorem allF_loop (g : Nat → Nat → Option β) (p : Nat → Bool) (ka ke : Option β) (m : Nat) (hs : ∀ F i, i < m → g (F + 1) i = cond (p i) (g F (i + 1)) ke) (he : ∀ F, g (F + 1) m = ka) :
    ∀ (d F i : Nat), i + d = m → d < F → g F i = cond (allF p d i) ka ke
  | 0, F, i, h, hF => by
    obtain ⟨G, rfl⟩ : ∃ G, F = G + 1 := ⟨F - 1, by omega⟩
    rw [show i = m by omega, he]
    rfl
  | d + 1, F, i, h, hF => by
    obtain ⟨G, rfl⟩ : ∃ G, F = G + 1 := ⟨F - 1, by omega⟩
    rw [hs G i (by omega)]
    simp only [allF]
    cases p i with
    | false => rfl
    | true => exact allF_loop g p ka ke m hs he d G (i + 1) (by omega) (by omega)
theorem allF_congr {p q : Nat → Bool} : ∀ {d i : Nat}, (∀ j, i ≤ j → j < i + d → p j = q j) → allF p d i = allF q d i
  | 0, _, _ => rfl
  | d + 1, i, h => by
    simp only [allF]
    rw [h i (Nat.le_refl _) (by omega), allF_congr fun j h1 h2 => h j (by omega) (by omega)]
theorem allF_snoc (p : Nat → Bool) : ∀ d i, allF p (d + 1) i = (allF p d i && p (i + d))
  | 0, i => by simp [allF]
  | d + 1, i => by
    rw [allF, allF_snoc p d (i + 1), allF, Bool.and_assoc, show i + 1 + d = i + (d + 1) by omega]
theorem allF_true {p : Nat → Bool} : ∀ {d i : Nat}, allF p d i = true → ∀ j, i ≤ j → j < i + d → p j = true
  | 0, i, _, j, h1, h2 => by omega
  | d + 1, i, h, j, h1, h2 => by
    simp only [allF, Bool.and_eq_true] at h
    rcases Nat.eq_or_lt_of_le h1 with rfl | h3
    · exact h.1
    · exact allF_true h.2 j h3 (by omega)

def li (l : List Nat) : List Int := l.map Int.ofNat
theorem li_len (l : List Nat) : (li l).length = l.length := by simp [li]
theorem li_rd (l : List Nat) (i : Nat) : rd 0 (li l) (i : Int) = ((l.getD i 0 : Nat) : Int) := by
  simp only [rd, li, Int.toNat_natCast, List.getD_eq_getElem?_getD, List.getElem?_map]
  cases l[i]? <;> rfl
theorem li_snoc (l : List Nat) (x : Nat) : li (l ++ [x]) = li l ++ [(x : Int)] := by simp [li]
theorem getD_left (l : List Nat) (x i : Nat) (h : i < l.length) : (l ++ [x]).getD i 0 = l.getD i 0 := by
  simp only [List.getD_eq_getElem?_getD, List.getElem?_append_left h]
theorem getD_last (l : List Nat) (x : Nat) : (l ++ [x]).getD l.length 0 = x := by
  simp [List.getD_eq_getElem?_getD]
theorem allF_all (l : List Nat) (p : Nat → Bool) : ∀ d i, i + d = l.length → allF (fun j => p (l.getD j 0)) d i = (l.drop i).all p
  | 0, i, h => by rw [List.drop_eq_nil_of_le (by omega)]; rfl
  | d + 1, i, h => by
    have hi : i < l.length := by omega
    rw [List.drop_eq_getElem_cons hi, List.all_cons, allF, allF_all l p d (i + 1) (by omega), List.getD_eq_getElem?_getD, List.getElem?_eq_getElem hi]
    rfl
theorem take_snoc (L : List Nat) (i : Nat) (hi : i < L.length) : L.take (i + 1) = L.take i ++ [L.getD i 0] := by
  rw [List.take_succ_eq_append_getElem hi, List.getD_eq_getElem?_getD, List.getElem?_eq_getElem hi]
  rfl
theorem drop_cons' (L : List Nat) (i : Nat) (hi : i < L.length) : L.drop i = L.getD i 0 :: L.drop (i + 1) := by
  rw [List.drop_eq_getElem_cons hi, List.getD_eq_getElem?_getD, List.getElem?_eq_getElem hi]
  rfl
end Go.Proofs.Ytfdggelojmofmaa
namespace Go.Proofs.Ytfdggelojmofmaa
open Go.Rv
set_option linter.unusedVariables false
variable {β : Type}
/-! ### Variables fixed -/
/-- An input with the variables of a mask fixed. -/
def fx (x m v : Nat) : Nat := (x ^^^ (x &&& m)) ||| v
theorem fx_bit (x m v j : Nat) : (fx x m v).testBit j = ((x.testBit j && !m.testBit j) || v.testBit j) := by
  unfold fx
  rw [Nat.testBit_or, Nat.testBit_xor, Nat.testBit_and]
  cases x.testBit j <;> cases m.testBit j <;> rfl
theorem fx_sum : ∀ m, m < 16 → ∀ v, v < 16 → v &&& m = v → ∀ x, x < 16 → x - (x &&& m) + v = fx x m v ∧ (x &&& m) ≤ x := by decide +kernel
theorem fx_lt {n x m v : Nat} (hx : x < 2 ^ n) (hv : v < 2 ^ n) : fx x m v < 2 ^ n :=
  Nat.or_lt_two_pow (Nat.xor_lt_two_pow hx (Nat.lt_of_le_of_lt Nat.and_le_left hx)) hv
theorem sub_bit {m v j : Nat} (h : v &&& m = v) : v.testBit j = true → m.testBit j = true := fun hv => by
  rw [← h, Nat.testBit_and, Bool.and_eq_true] at hv
  exact hv.2
theorem ys_fx {x i b : Nat} (hx : x < 32) (hi : i < 5) (hb : b < 2) : ys x i b = fx x (2 ^ i) (b * 2 ^ i) := (ys_eq x hx i hi b hb).1
theorem bi_bit (i b j : Nat) (hb : b < 2) : (b * 2 ^ i).testBit j = (decide (i = j) && decide (b = 1)) := by
  rcases (show b = 0 ∨ b = 1 by omega) with rfl | rfl
  · rw [Nat.zero_mul, Nat.zero_testBit]; simp
  · rw [Nat.one_mul, Nat.testBit_two_pow]; simp
theorem fx_ys {x m v i b : Nat} (hx : x < 32) (hi : i < 5) (hb : b < 2) (hm : m.testBit i = false) : fx (ys x i b) m v = fx x (m ||| 2 ^ i) (v ||| b * 2 ^ i) := by
  rw [ys_fx hx hi hb]
  refine Nat.eq_of_testBit_eq fun j => ?_
  simp only [fx_bit, Nat.testBit_or, bi_bit i b j hb, Nat.testBit_two_pow]
  by_cases e : i = j
  · subst e
    rw [hm]
    cases x.testBit i <;> cases v.testBit i <;> cases decide (b = 1) <;> simp
  · simp [e]
theorem fx_ys_in {x m v i b : Nat} (hx : x < 32) (hi : i < 5) (hb : b < 2) (hm : m.testBit i = true) : fx (ys x i b) m v = fx x m v := by
  rw [ys_fx hx hi hb]
  refine Nat.eq_of_testBit_eq fun j => ?_
  simp only [fx_bit, bi_bit i b j hb, Nat.testBit_two_pow]
  by_cases e : i = j
  · subst e
    rw [hm]
    simp
  · simp [e]
/-- A table with the variables of a mask fixed. -/
def wd (W n m v : Nat) : Nat := tabw (fun x => W.testBit (fx x m v)) (2 ^ n)
theorem wd_lt (W n m v : Nat) : wd W n m v < 2 ^ 2 ^ n := tabw_lt _ _
theorem wd_bit (W n m v x : Nat) : (wd W n m v).testBit x = (decide (x < 2 ^ n) && W.testBit (fx x m v)) := tabw_bit _ _ _
theorem wd_zero (W n : Nat) (h : W < 2 ^ 2 ^ n) : wd W n 0 0 = W := by
  unfold wd
  rw [tabw_congr (h := W.testBit) (fun x _ => by unfold fx; rw [Nat.and_zero, Nat.xor_zero, Nat.or_zero])]
  exact tabw_self W _ h
/-- A variable fixed, and still one. -/
def stk (w n i b : Nat) : Nat := tabw (fun x => w.testBit (ys x i b)) (2 ^ n)
theorem ys_lt {n x i b : Nat} (hn : n ≤ 5) (hx : x < 2 ^ n) (hi : i < n) (hb : b < 2) : ys x i b < 2 ^ n := by
  have hs := size_le hn
  rw [ys_fx (by omega) (by omega) hb]
  refine fx_lt hx ?_
  rcases (show b = 0 ∨ b = 1 by omega) with rfl | rfl
  · rw [Nat.zero_mul]; exact Nat.two_pow_pos n
  · rw [Nat.one_mul]; exact Nat.pow_lt_pow_right (by decide) hi
theorem stk_wd {W n m v i b : Nat} (hn : n ≤ 5) (hi : i < n) (hb : b < 2) (hm : m.testBit i = false) : stk (wd W n m v) n i b = wd W n (m ||| 2 ^ i) (v ||| b * 2 ^ i) := by
  have hs := size_le hn
  refine tabw_congr fun x hx => ?_
  rw [wd_bit, decide_eq_true (ys_lt hn hx hi hb), Bool.true_and, fx_ys (by omega) (by omega) hb hm]
theorem dep_in {W n m v i : Nat} (hn : n ≤ 5) (hi : i < n) (hm : m.testBit i = true) : dep (wd W n m v) n i = false := by
  have hs := size_le hn
  have h := stuck_same (wd W n m v) n i 0 hn hi (by decide) (wd_lt _ _ _ _)
  have e : tabw (fun x => (wd W n m v).testBit (ys x i 0)) (2 ^ n) = wd W n m v := tabw_congr fun x hx => by
    rw [wd_bit, decide_eq_true (ys_lt hn hx hi (by decide)), Bool.true_and, fx_ys_in (by omega) (by omega) (by decide) hm]
  rw [e, beq_self_eq_true] at h
  rw [← Bool.not_not (dep _ _ _), ← h]
  rfl
theorem dep_test {w n i : Nat} (hn : n ≤ 5) (hi : i < n) (hw : w < 2 ^ 2 ^ n) : (stk w n i 0 == stk w n i 1) = !dep w n i := by
  have h0 := stuck_same w n i 0 hn hi (by decide) hw
  have h1 := stuck_same w n i 1 hn hi (by decide) hw
  cases hd : dep w n i with
  | false =>
    rw [hd] at h0 h1
    have h0 := eq_of_beq h0
    have h1 := eq_of_beq h1
    unfold stk
    rw [h0, h1, beq_self_eq_true]
    rfl
  | true =>
    refine beq_eq_false_iff_ne.2 fun e => ?_
    have e := (tabw_eq_iff _ _ _).1 e
    have : dep w n i = false := by
      unfold dep bne
      rw [Bool.not_eq_false', beq_iff_eq, tabw_eq_iff]
      intro y hy
      obtain ⟨a1, a2, _⟩ := ins_ys n hn i hi y hy
      have := e (ins y i 0) (ins_lt1 n hn i hi y hy).1
      rwa [a1, a2] at this
    rw [hd] at this; cases this
theorem stk_free {w n i b : Nat} (hn : n ≤ 5) (hi : i < n) (hb : b < 2) (hw : w < 2 ^ 2 ^ n) (hd : dep w n i = false) : stk w n i b = w := by
  have h := stuck_same w n i b hn hi hb hw
  rw [hd] at h
  exact eq_of_beq h
theorem fx_id {x m v : Nat} (h : x &&& m = v) : fx x m v = x := Nat.eq_of_testBit_eq fun j => by
  rw [fx_bit, ← h, Nat.testBit_and]
  cases x.testBit j <;> cases m.testBit j <;> rfl
theorem fx_and {x m v : Nat} (h : v &&& m = v) : fx x m v &&& m = v := Nat.eq_of_testBit_eq fun j => by
  rw [Nat.testBit_and, fx_bit]
  have := sub_bit (j := j) h
  revert this
  cases x.testBit j <;> cases m.testBit j <;> cases v.testBit j <;> simp
theorem tabw_full (n : Nat) : ∀ m, tabw (fun _ => true) m = 2 ^ m - 1 := fun m => Nat.eq_of_testBit_eq fun j => by
  rw [tabw_bit, Nat.testBit_two_pow_sub_one, Bool.and_true]
/-- The same value everywhere. -/
theorem wd_const {W n m v : Nat} (hv : v < 2 ^ n) (h : v &&& m = v) : (wd W n m v == 0) = !sc W m v true (2 ^ n) ∧ (wd W n m v == 2 ^ 2 ^ n - 1) = !sc W m v false (2 ^ n) := by
  have key : ∀ b : Bool, sc W m v b (2 ^ n) = true ↔ ∃ x, x < 2 ^ n ∧ W.testBit (fx x m v) = b := fun b => by
    rw [sc_iff]
    constructor
    · rintro ⟨x, h1, h2, h3⟩; exact ⟨x, h1, by rw [fx_id h2]; exact h3⟩
    · rintro ⟨x, h1, h3⟩; exact ⟨fx x m v, fx_lt h1 hv, fx_and h, h3⟩
  constructor
  · cases hs : sc W m v true (2 ^ n) with
    | true =>
      obtain ⟨x, h1, h2⟩ := (key true).1 hs
      refine beq_eq_false_iff_ne.2 fun e => ?_
      have := wd_bit W n m v x
      rw [e, Nat.zero_testBit, decide_eq_true h1, h2] at this
      cases this
    | false =>
      refine beq_iff_eq.2 (Nat.eq_of_testBit_eq fun x => ?_)
      rw [wd_bit, Nat.zero_testBit]
      by_cases hx : x < 2 ^ n
      · cases hb : W.testBit (fx x m v) with
        | false => rw [Bool.and_false]
        | true => rw [(key true).2 ⟨x, hx, hb⟩] at hs; cases hs
      · rw [decide_eq_false hx, Bool.false_and]
  · cases hs : sc W m v false (2 ^ n) with
    | true =>
      obtain ⟨x, h1, h2⟩ := (key false).1 hs
      refine beq_eq_false_iff_ne.2 fun e => ?_
      have := wd_bit W n m v x
      rw [e, Nat.testBit_two_pow_sub_one, decide_eq_true h1, h2] at this
      cases this
    | false =>
      refine beq_iff_eq.2 (Nat.eq_of_testBit_eq fun x => ?_)
      rw [wd_bit, Nat.testBit_two_pow_sub_one]
      by_cases hx : x < 2 ^ n
      · cases hb : W.testBit (fx x m v) with
        | true => rw [Bool.and_true]
        | false => rw [(key false).2 ⟨x, hx, hb⟩] at hs; cases hs
      · rw [decide_eq_false hx, Bool.false_and]
theorem sc_either {W n m v : Nat} (hv : v < 2 ^ n) (h : v &&& m = v) : (sc W m v false (2 ^ n) || sc W m v true (2 ^ n)) = true := by
  cases hb : W.testBit v with
  | false => rw [(sc_iff W m v false _).2 ⟨v, hv, h, hb⟩]; rfl
  | true => rw [(sc_iff W m v true _).2 ⟨v, hv, h, hb⟩, Bool.or_true]

/-! ### Orders -/
def ext4 (n : Nat) : Nat → List Nat → List (List Nat)
  | 0, p => [p]
  | d + 1, p => (List.range n).flatMap fun x => if p.contains x then [] else ext4 n d (p ++ [x])
theorem flatMap_len {α : Type} (f : Nat → List α) (b : Nat) (h : ∀ x, (f x).length ≤ b) : ∀ m, ((List.range m).flatMap f).length ≤ m * b
  | 0 => by simp
  | m + 1 => by
    have h1 := flatMap_len f b h m
    have h2 := h m
    rw [List.range_succ, List.flatMap_append, List.length_append, List.flatMap_singleton, Nat.succ_mul]
    omega
theorem ext4_len (n : Nat) : ∀ d p, (ext4 n d p).length ≤ n ^ d
  | 0, p => by simp [ext4]
  | d + 1, p => by
    simp only [ext4]
    rw [Nat.pow_succ, Nat.mul_comm]
    refine flatMap_len _ _ (fun x => ?_) n
    split
    · exact Nat.zero_le _
    · exact ext4_len n d _
def prm (n : Nat) : List (List Nat) := ext4 n n []
/-- An order of variables. -/
def permB (n : Nat) (p : List Nat) : Bool := Nat.beq p.length n && ((List.range n).all fun i => p.contains i) && p.all (fun x => decide (x < n)) && ((List.range n).all fun i => (List.range i).all fun j => p.getD j 0 != p.getD i 0)
theorem prm_ok : ∀ n, n ≤ 4 → ((prm n).all (permB n) && decide (0 < (prm n).length) && decide ((prm n).length ≤ 24)) = true := by decide +kernel
theorem pow4 : ∀ n, n ≤ 4 → ∀ d, d ≤ 4 → n ^ d ≤ 256 := by decide +kernel
def lii (l : List (List Nat)) : List (List Int) := l.map li
theorem lii_app (l m : List (List Nat)) : lii (l ++ m) = lii l ++ lii m := by simp [lii]
theorem li_any (l : List Nat) (x : Nat) (h : l.length ≤ 100) (N : Nat) (hN : 1048576 < N) (n : Int) (out : List (List Int)) (K0 : Int → List Int → Int → Bool → List (List Int) → Option β) :
    spec_l4Perms_l2 N N n (li l) (x : Int) false 0 out K0 = K0 n (li l) x (l.contains x) out := by
  have e : l.contains x = (l.take l.length).contains x := by rw [List.take_length]
  rw [e]
  refine loop_st (fun F j => spec_l4Perms_l2 N F n (li l) (x : Int) ((l.take j).contains x) (j : Int) out K0) l.length _ (fun F j hj => ?_) (fun F => ?_) N 0 (by omega) (by omega)
  · simp only [spec_l4Perms_l2, spec_l4Perms_l2b, li_len, li_rd]
    rw [decide_eq_true (by omega), cond_true, w64_succ j (by omega), take_snoc l j hj, List.contains_append, List.contains_cons, List.contains_nil, Bool.or_false]
    cases (l.take j).contains x with
    | true => rfl
    | false =>
      rw [cond_false, gd_true (decide_eq_true (by omega)), gd_true rfl, Bool.false_or]
      congr 1
      rw [Bool.eq_iff_iff, beq_iff_eq, beq_iff_eq]
      omega
  · simp only [spec_l4Perms_l2, spec_l4Perms_l2b, li_len]
    rw [decide_eq_false (by omega), cond_false]

theorem spec_perms_f (N : Nat) (hN : 1048576 < N) (n : Nat) (hn : n ≤ 4) : ∀ (d F : Nat) (p : List Nat), p.length + d = n → d < F → ∀ K : List (List Int) → Option β,
    spec_l4Perms_f N F (n : Int) (li p) K = K (lii (ext4 n d p)) := by
  intro d
  induction d with
  | zero =>
    intro F p hp hF K
    obtain ⟨G, rfl⟩ : ∃ G, F = G + 1 := ⟨F - 1, by omega⟩
    simp only [spec_l4Perms_f, spec_l4Perms_b, li_len]
    rw [beq_iff_eq.2 (by omega : (p.length : Int) = (n : Int)), cond_true]
    rfl
  | succ d ih =>
    intro F p hp hF K
    obtain ⟨G, rfl⟩ : ∃ G, F = G + 1 := ⟨F - 1, by omega⟩
    simp only [spec_l4Perms_f, spec_l4Perms_b, li_len]
    rw [beq_eq_false_iff_ne.2 (by omega : (p.length : Int) ≠ (n : Int)), cond_false]
    have hpw := pow4 n hn d (by omega)
    refine loop_st (fun H x => spec_l4Perms_l0 N (spec_l4Perms_f N G) H (n : Int) (li p) (x : Int) (lii ((List.range x).flatMap fun x => if p.contains x then [] else ext4 n d (p ++ [x]))) fun e => K e) n _ (fun H x hx => ?_) (fun H => ?_) N 0 (by omega) (by omega)
    · simp only [spec_l4Perms_l0, spec_l4Perms_l0b]
      rw [decide_eq_true (by omega), cond_true, li_any p x (by omega) N hN, List.range_succ, List.flatMap_append, List.flatMap_singleton]
      have hl := flatMap_len (fun x => if p.contains x then [] else ext4 n d (p ++ [x])) 256 (fun x => by
        have := ext4_len n d (p ++ [x])
        show (if p.contains x then [] else ext4 n d (p ++ [x])).length ≤ 256
        split
        · exact Nat.zero_le _
        · omega) x
      cases hc : p.contains x with
      | true =>
        rw [Bool.not_true, cond_false, if_pos rfl, List.append_nil, w64_succ x (by omega)]
      | false =>
        have hlen := ext4_len n d (p ++ [x])
        rw [Bool.not_false, cond_true, if_neg (by decide)]
        simp only [List.nil_append]
        rw [gd_true (decide_eq_true (by simp [li_len]; omega)), gd_true (decide_eq_true (by simp [li_len]; omega)), ← li_snoc, ih G (p ++ [x]) (by simp; omega) (by omega), gd_true (decide_eq_true (by simp only [lii, List.length_map]; omega)), w64_succ x (by omega), lii_app]
    · simp only [spec_l4Perms_l0, spec_l4Perms_l0b]
      rw [decide_eq_false (by omega), cond_false]
      rfl
theorem spec_perms_eq (N : Nat) (hN : 1048576 < N) (n : Nat) (hn : n ≤ 4) (K : List (List Int) → Option β) : spec_l4Perms N (n : Int) [] K = K (lii (prm n)) := by
  unfold spec_l4Perms
  exact spec_perms_f N hN n hn n N [] (by simp) (by omega) K

/-- Which numbers are used. -/
def usedL (n : Nat) (p : List Nat) : List Bool := (List.range n).map fun x => p.contains x
theorem usedL_len (n : Nat) (p : List Nat) : (usedL n p).length = n := by simp [usedL]
theorem usedL_rd (n : Nat) (p : List Nat) (x : Nat) (h : x < n) : rd false (usedL n p) (x : Int) = p.contains x := by
  rw [rd_nat false _ x (by rw [usedL_len]; exact h)]
  simp [usedL]
theorem usedL_put (n : Nat) (p : List Nat) (x : Nat) : wr (usedL n p) (x : Int) true = usedL n (p ++ [x]) := by
  refine List.ext_getElem (by simp [wr, usedL]) fun i h1 h2 => ?_
  simp only [wr, usedL, Int.toNat_natCast, List.getElem_set, List.getElem_map, List.getElem_range]
  rw [List.contains_append, List.contains_cons, List.contains_nil, Bool.or_false]
  by_cases e : x = i
  · rw [if_pos e, e, beq_self_eq_true, Bool.or_true]
  · rw [if_neg e, beq_eq_false_iff_ne.2 (fun h => e h.symm), Bool.or_false]
theorem usedL_back (n : Nat) (p : List Nat) (x : Nat) (hx : p.contains x = false) : wr (usedL n (p ++ [x])) (x : Int) false = usedL n p := by
  refine List.ext_getElem (by simp [wr, usedL]) fun i h1 h2 => ?_
  simp only [wr, usedL, Int.toNat_natCast, List.getElem_set, List.getElem_map, List.getElem_range]
  rw [List.contains_append, List.contains_cons, List.contains_nil, Bool.or_false]
  by_cases e : x = i
  · rw [if_pos e, ← e, hx]
  · rw [if_neg e, beq_eq_false_iff_ne.2 (fun h => e h.symm), Bool.or_false]
theorem impl_perms_f (N : Nat) (hN : 1048576 < N) (n : Nat) (hn : n ≤ 4) : ∀ (d F : Nat) (p : List Nat) (out : List (List Int)), p.length + d = n → d < F → out.length + 2000 * d ≤ 100000 → ∀ K : Int → List Int → List (List Int) → List Bool → Option β,
    impl_permutations_1_g0_f N F (n : Int) (li p) out (usedL n p) K = K n (li p) (out ++ lii (ext4 n d p)) (usedL n p) := by
  intro d
  induction d with
  | zero =>
    intro F p out hp hF ho K
    obtain ⟨G, rfl⟩ : ∃ G, F = G + 1 := ⟨F - 1, by omega⟩
    simp only [impl_permutations_1_g0_f, impl_permutations_1_g0_b, li_len]
    rw [beq_iff_eq.2 (by omega : (p.length : Int) = (n : Int)), cond_true]
    simp only [List.nil_append]
    rw [gd_true (decide_eq_true (by simp; omega)), gd_true (decide_eq_true (by simp; omega))]
    rfl
  | succ d ih =>
    intro F p out hp hF ho K
    obtain ⟨G, rfl⟩ : ∃ G, F = G + 1 := ⟨F - 1, by omega⟩
    simp only [impl_permutations_1_g0_f, impl_permutations_1_g0_b, li_len]
    rw [beq_eq_false_iff_ne.2 (by omega : (p.length : Int) ≠ (n : Int)), cond_false]
    have hpw := pow4 n hn d (by omega)
    have h := loop_st (fun H x => impl_permutations_1_l0 N (impl_permutations_1_g0_f N G) H (n : Int) (x : Int) (n : Int) (li p) (out ++ lii ((List.range x).flatMap fun x => if p.contains x then [] else ext4 n d (p ++ [x]))) (usedL n p) fun e0 e1 e2 e3 => K e0 e1 e2 e3) n (K n (li p) (out ++ lii (ext4 n (d + 1) p)) (usedL n p)) (fun H x hx => ?_) (fun H => ?_) N 0 (by omega) (by omega)
    rotate_left
    · simp only [impl_permutations_1_l0, impl_permutations_1_l0b]
      rw [usedL_len, usedL_rd n p x hx, decide_eq_true (by omega : (x : Int) < (n : Int)), decide_eq_true (by omega : (0 : Int) ≤ (x : Int)), List.range_succ, List.flatMap_append, List.flatMap_singleton]
      simp only [cond_true, gd]
      have hl := flatMap_len (fun x => if p.contains x then [] else ext4 n d (p ++ [x])) 256 (fun x => by
        have := ext4_len n d (p ++ [x])
        show (if p.contains x then [] else ext4 n d (p ++ [x])).length ≤ 256
        split
        · exact Nat.zero_le _
        · omega) x
      cases hc : p.contains x with
      | true =>
        rw [Bool.not_true, cond_false, if_pos rfl, List.append_nil, w64_succ x (by omega)]
      | false =>
        rw [Bool.not_false, cond_true, if_neg (by decide), List.nil_append, ← li_snoc, usedL_put, decide_eq_true (by simp only [li_len, List.length_cons, List.length_nil]; omega), cond_true]
        rw [ih G (p ++ [x]) _ (by simp; omega) (by omega) (by simp only [lii, List.length_append, List.length_map]; omega)]
        rw [li_len, usedL_len, List.length_append, List.length_cons, List.length_nil, show w64 (((p.length + (0 + 1) : Nat) : Int) - 1) = (p.length : Int) by rw [w64_id (by omega) (by omega)]; omega, decide_eq_true (by omega : (0 : Int) ≤ (p.length : Int)), decide_eq_true (by omega : (p.length : Int) ≤ ((p.length + (0 + 1) : Nat) : Int)), decide_eq_true (by omega : (x : Int) < (n : Int)), usedL_back n p x hc, w64_succ x (by omega)]
        simp only [cond_true]
        have et : List.drop 0 (List.take (Int.toNat (p.length : Int)) (li (p ++ [x]))) = li p := by
          rw [List.drop_zero, Int.toNat_natCast, li_snoc, List.take_append_of_le_length (by rw [li_len]; exact Nat.le_refl _), List.take_of_length_le (by rw [li_len]; exact Nat.le_refl _)]
        rw [et, lii_app, List.append_assoc]
    · simp only [impl_permutations_1_l0, impl_permutations_1_l0b]
      rw [decide_eq_false (by omega), cond_false]
      rfl
    · simpa [lii] using h
theorem impl_perms_eq (N : Nat) (hN : 1048576 < N) (n : Nat) (hn : n ≤ 4) (K : List (List Int) → Option β) : impl_permutations N (n : Int) K = K (lii (prm n)) := by
  unfold impl_permutations
  rw [gd_true (decide_eq_true (by omega)), gd_true (decide_eq_true (by omega)), gd_true (decide_eq_true (by omega)), gd_true (decide_eq_true (by omega)), gd_true (decide_eq_true (by omega)), Int.toNat_natCast]
  have e : List.replicate n false = usedL n [] := by
    refine (List.eq_replicate_iff.2 ⟨usedL_len n [], fun b hb => ?_⟩).symm
    obtain ⟨x, _, rfl⟩ := List.mem_map.1 hb
    rfl
  have h := impl_perms_f (β := β) N hN n hn n N [] [] (by simp) (by omega) (by simp; omega) (fun _ _ r2_2 _ => K r2_2)
  rw [e]
  unfold impl_permutations_1_g0
  exact h
end Go.Proofs.Ytfdggelojmofmaa
