/- Numbers written: both texts write the same. -/
import Derived.Test.YtfdggelojmofmaaDoorP44
namespace Go.Proofs.YtfdggelojmofmaaDoor
open Go.Rv
variable {β : Type}
def in64 (n : Int) : Prop := -9223372036854775808 ≤ n ∧ n ≤ 9223372036854775807
theorem w64_in (x : Int) : in64 (w64 x) := by
  show -9223372036854775808 ≤ IntKind.wrap .i64 x ∧ _
  rw [show w64 x = IntKind.wrap .i64 x from rfl, IntKind.wrap_i64]
  omega

def dgs (m : Nat) : List UInt8 := if m = 0 then [] else Lib.decDigits m
theorem dgs_step (m : Nat) (h : 0 < m) : dgs m = dgs (m / 10) ++ [UInt8.ofNat (48 + m % 10)] := by
  unfold dgs
  rw [if_neg (by omega)]
  by_cases h1 : m < 10
  · rw [Lib.decDigits, dif_pos h1, if_pos (by omega), Nat.mod_eq_of_lt h1]
    rfl
  · rw [if_neg (by omega), Lib.decDigits, dif_neg h1]
theorem dgs_len : ∀ (d m : Nat), m < 10 ^ d → (dgs m).length ≤ d := by
  intro d
  induction d with
  | zero => intro m h; have : m = 0 := by simpa using h
            subst this; simp [dgs]
  | succ d ih =>
    intro m h
    by_cases h0 : m = 0
    · subst h0; simp [dgs]
    · rw [dgs_step m (by omega)]
      have := ih (m / 10) (by rw [Nat.pow_succ] at h; omega)
      simp
      exact this

def sgn (s : Bool) (m : Nat) : Int := cond s (-(m : Int)) m
theorem rem_sgn (s : Bool) (m : Nat) : remI (sgn s m) 10 = sgn s (m % 10) := by
  cases s with
  | false => rfl
  | true =>
    show (-(m : Int)).tmod 10 = -((m % 10 : Nat) : Int)
    rw [Int.neg_tmod]
    rfl
theorem quo_sgn (s : Bool) (m : Nat) (h : m ≤ 9223372036854775808) : quoI .i64 (sgn s m) 10 = sgn s (m / 10) := by
  show w64 ((sgn s m).tdiv 10) = _
  have e : (sgn s m).tdiv 10 = sgn s (m / 10) := by
    cases s with
    | false => rfl
    | true =>
      show (-(m : Int)).tdiv 10 = -((m / 10 : Nat) : Int)
      rw [Int.neg_tdiv]
      rfl
  rw [e]
  cases s <;> simp only [sgn, cond_true, cond_false] <;> rw [w64_id] <;> omega

theorem w8_small (n : Nat) (h : n < 256) : w8 (n : Int) = n := by
  have := IntKind.wrap_u8 (n : Int)
  show IntKind.wrap .u8 (n : Int) = n
  rw [this]
  omega

theorem itoaB_eq (n : Int) : itoaB n = B (Lib.itoa n) := rfl
theorem pow19 : (9223372036854775808 : Nat) < 10 ^ 19 := by decide
theorem itoa_len (n : Int) (h : in64 n) : (Lib.itoa n).length ≤ 20 ∧ 0 < (Lib.itoa n).length := by
  have key : ∀ m : Nat, m ≤ 9223372036854775808 → (Lib.decDigits m).length ≤ 19 ∧ 0 < (Lib.decDigits m).length := by
    intro m hm
    by_cases h0 : m = 0
    · subst h0; rw [Lib.decDigits, dif_pos (by decide)]; simp
    · have e : dgs m = Lib.decDigits m := if_neg h0
      rw [← e]
      refine ⟨dgs_len 19 m (Nat.lt_of_le_of_lt hm pow19), ?_⟩
      rw [dgs_step m (by omega)]
      simp
  obtain ⟨h1, h2⟩ := h
  unfold Lib.itoa
  split
  · have := key n.natAbs (by omega)
    simp; omega
  · have := key n.toNat (by omega)
    omega

/-! ### Lists of numbers -/
def jn (l : List Int) : Nat → List UInt8
  | 0 => []
  | i + 1 => cond (decide (0 < i)) (jn l i ++ [44]) (jn l i) ++ Lib.itoa (rd 0 l (i : Int))
def textL (l : List Int) : List UInt8 := if l = [] then [110, 111, 110, 101] else jn l l.length
theorem rd_in (l : List Int) (hr : ∀ x ∈ l, in64 x) (i : Nat) (h : i < l.length) : in64 (rd 0 l (i : Int)) := by
  rw [rd_nat 0 l i h]
  exact hr _ (List.getElem_mem h)
theorem jn_len (l : List Int) (hr : ∀ x ∈ l, in64 x) : ∀ i, i ≤ l.length → (jn l i).length ≤ 21 * i ∧ (0 < i → 0 < (jn l i).length)
  | 0, _ => by simp [jn]
  | i + 1, h => by
    have h1 := jn_len l hr i (by omega)
    have h2 := itoa_len _ (rd_in l hr i (by omega))
    simp only [jn]
    cases decide (0 < i) <;> simp only [cond_true, cond_false, List.length_append, List.length_cons, List.length_nil] <;> omega
theorem textL_len (l : List Int) (hr : ∀ x ∈ l, in64 x) : (textL l).length ≤ 21 * l.length + 4 := by
  unfold textL
  split
  · simp
  · have := jn_len l hr l.length (Nat.le_refl _); omega

theorem jn_join (l : List Int) : ∀ (x : Int) (i : Nat), i ≤ l.length → jn (x :: l) (i + 1) = Lib.itoa x ++ Lib.joinTail [44] ((l.map Lib.itoa).take i) := by
  intro x i
  induction i with
  | zero =>
    intro _
    simp [jn, Lib.joinTail, rd, List.getD]
  | succ i ih =>
    intro h
    have e : (l.map Lib.itoa)[i]? = some (Lib.itoa l[i]) := by rw [List.getElem?_map, List.getElem?_eq_getElem (by omega)]; rfl
    rw [Lib.joinTail_take_succ [44] _ i _ e]
    have e2 : jn (x :: l) (i + 1 + 1) = jn (x :: l) (i + 1) ++ [44] ++ Lib.itoa (rd 0 (x :: l) ((i + 1 : Nat) : Int)) := rfl
    rw [e2, ih (by omega), rd_nat 0 (x :: l) (i + 1) (by simp; omega)]
    simp
theorem textL_join (l : List Int) (h : l ≠ []) : textL l = Lib.join (l.map Lib.itoa) [44] := by
  unfold textL
  rw [if_neg h]
  cases l with
  | nil => exact absurd rfl h
  | cons x l =>
    rw [List.length_cons, jn_join l x l.length (Nat.le_refl _), List.map_cons, Lib.join_cons, List.take_of_length_le (by simp)]
end Go.Proofs.YtfdggelojmofmaaDoor
