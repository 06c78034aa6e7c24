/- Plain laws of the texts: tables with some variables fixed; all orders of variables. -/
import Derived.Test.YtfdggelojmofmaaDoorP92
namespace Go.Proofs.YtfdggelojmofmaaDoor
open Go.Rv
set_option linter.unusedVariables false
variable {β : Type}
/-! ### Variables fixed -/
/-- An input with the variables of a mask fixed. -/
def fx (x m v : Nat) : Nat := (x ^^^ (x &&& m)) ||| v
theorem fx_bit (x m v j : Nat) : (fx x m v).testBit j = ((x.testBit j && !m.testBit j) || v.testBit j) := by
  unfold fx
  rw [Nat.testBit_or, Nat.testBit_xor, Nat.testBit_and]
  cases x.testBit j <;> cases m.testBit j <;> rfl
theorem fx_sum : ∀ m, m < 16 → ∀ v, v < 16 → v &&& m = v → ∀ x, x < 16 → x - (x &&& m) + v = fx x m v ∧ (x &&& m) ≤ x := by decide +kernel
theorem fx_lt {n x m v : Nat} (hx : x < 2 ^ n) (hv : v < 2 ^ n) : fx x m v < 2 ^ n :=
  Nat.or_lt_two_pow (Nat.xor_lt_two_pow hx (Nat.lt_of_le_of_lt Nat.and_le_left hx)) hv
theorem sub_bit {m v j : Nat} (h : v &&& m = v) : v.testBit j = true → m.testBit j = true := fun hv => by
  rw [← h, Nat.testBit_and, Bool.and_eq_true] at hv
  exact hv.2
theorem ys_fx {x i b : Nat} (hx : x < 32) (hi : i < 5) (hb : b < 2) : ys x i b = fx x (2 ^ i) (b * 2 ^ i) := (ys_eq x hx i hi b hb).1
theorem bi_bit (i b j : Nat) (hb : b < 2) : (b * 2 ^ i).testBit j = (decide (i = j) && decide (b = 1)) := by
  rcases (show b = 0 ∨ b = 1 by omega) with rfl | rfl
  · rw [Nat.zero_mul, Nat.zero_testBit]; simp
  · rw [Nat.one_mul, Nat.testBit_two_pow]; simp
theorem fx_ys {x m v i b : Nat} (hx : x < 32) (hi : i < 5) (hb : b < 2) (hm : m.testBit i = false) : fx (ys x i b) m v = fx x (m ||| 2 ^ i) (v ||| b * 2 ^ i) := by
  rw [ys_fx hx hi hb]
  refine Nat.eq_of_testBit_eq fun j => ?_
  simp only [fx_bit, Nat.testBit_or, bi_bit i b j hb, Nat.testBit_two_pow]
  by_cases e : i = j
  · subst e
    rw [hm]
    cases x.testBit i <;> cases v.testBit i <;> cases decide (b = 1) <;> simp
  · simp [e]
theorem fx_ys_in {x m v i b : Nat} (hx : x < 32) (hi : i < 5) (hb : b < 2) (hm : m.testBit i = true) : fx (ys x i b) m v = fx x m v := by
  rw [ys_fx hx hi hb]
  refine Nat.eq_of_testBit_eq fun j => ?_
  simp only [fx_bit, bi_bit i b j hb, Nat.testBit_two_pow]
  by_cases e : i = j
  · subst e
    rw [hm]
    simp
  · simp [e]
/-- A table with the variables of a mask fixed. -/
def wd (W n m v : Nat) : Nat := tabw (fun x => W.testBit (fx x m v)) (2 ^ n)
theorem wd_lt (W n m v : Nat) : wd W n m v < 2 ^ 2 ^ n := tabw_lt _ _
theorem wd_bit (W n m v x : Nat) : (wd W n m v).testBit x = (decide (x < 2 ^ n) && W.testBit (fx x m v)) := tabw_bit _ _ _
theorem wd_zero (W n : Nat) (h : W < 2 ^ 2 ^ n) : wd W n 0 0 = W := by
  unfold wd
  rw [tabw_congr (h := W.testBit) (fun x _ => by unfold fx; rw [Nat.and_zero, Nat.xor_zero, Nat.or_zero])]
  exact tabw_self W _ h
/-- A variable fixed, and still one. -/
def stk (w n i b : Nat) : Nat := tabw (fun x => w.testBit (ys x i b)) (2 ^ n)
theorem ys_lt {n x i b : Nat} (hn : n ≤ 5) (hx : x < 2 ^ n) (hi : i < n) (hb : b < 2) : ys x i b < 2 ^ n := by
  have hs := size_le hn
  rw [ys_fx (by omega) (by omega) hb]
  refine fx_lt hx ?_
  rcases (show b = 0 ∨ b = 1 by omega) with rfl | rfl
  · rw [Nat.zero_mul]; exact Nat.two_pow_pos n
  · rw [Nat.one_mul]; exact Nat.pow_lt_pow_right (by decide) hi
theorem stk_wd {W n m v i b : Nat} (hn : n ≤ 5) (hi : i < n) (hb : b < 2) (hm : m.testBit i = false) : stk (wd W n m v) n i b = wd W n (m ||| 2 ^ i) (v ||| b * 2 ^ i) := by
  have hs := size_le hn
  refine tabw_congr fun x hx => ?_
  rw [wd_bit, decide_eq_true (ys_lt hn hx hi hb), Bool.true_and, fx_ys (by omega) (by omega) hb hm]
theorem dep_in {W n m v i : Nat} (hn : n ≤ 5) (hi : i < n) (hm : m.testBit i = true) : dep (wd W n m v) n i = false := by
  have hs := size_le hn
  have h := stuck_same (wd W n m v) n i 0 hn hi (by decide) (wd_lt _ _ _ _)
  have e : tabw (fun x => (wd W n m v).testBit (ys x i 0)) (2 ^ n) = wd W n m v := tabw_congr fun x hx => by
    rw [wd_bit, decide_eq_true (ys_lt hn hx hi (by decide)), Bool.true_and, fx_ys_in (by omega) (by omega) (by decide) hm]
  rw [e, beq_self_eq_true] at h
  rw [← Bool.not_not (dep _ _ _), ← h]
  rfl
theorem dep_test {w n i : Nat} (hn : n ≤ 5) (hi : i < n) (hw : w < 2 ^ 2 ^ n) : (stk w n i 0 == stk w n i 1) = !dep w n i := by
  have h0 := stuck_same w n i 0 hn hi (by decide) hw
  have h1 := stuck_same w n i 1 hn hi (by decide) hw
  cases hd : dep w n i with
  | false =>
    rw [hd] at h0 h1
    have h0 := eq_of_beq h0
    have h1 := eq_of_beq h1
    unfold stk
    rw [h0, h1, beq_self_eq_true]
    rfl
  | true =>
    refine beq_eq_false_iff_ne.2 fun e => ?_
    have e := (tabw_eq_iff _ _ _).1 e
    have : dep w n i = false := by
      unfold dep bne
      rw [Bool.not_eq_false', beq_iff_eq, tabw_eq_iff]
      intro y hy
      obtain ⟨a1, a2, _⟩ := ins_ys n hn i hi y hy
      have := e (ins y i 0) (ins_lt1 n hn i hi y hy).1
      rwa [a1, a2] at this
    rw [hd] at this; cases this
theorem stk_free {w n i b : Nat} (hn : n ≤ 5) (hi : i < n) (hb : b < 2) (hw : w < 2 ^ 2 ^ n) (hd : dep w n i = false) : stk w n i b = w := by
  have h := stuck_same w n i b hn hi hb hw
  rw [hd] at h
  exact eq_of_beq h
theorem fx_id {x m v : Nat} (h : x &&& m = v) : fx x m v = x := Nat.eq_of_testBit_eq fun j => by
  rw [fx_bit, ← h, Nat.testBit_and]
  cases x.testBit j <;> cases m.testBit j <;> rfl
theorem fx_and {x m v : Nat} (h : v &&& m = v) : fx x m v &&& m = v := Nat.eq_of_testBit_eq fun j => by
  rw [Nat.testBit_and, fx_bit]
  have := sub_bit (j := j) h
  revert this
  cases x.testBit j <;> cases m.testBit j <;> cases v.testBit j <;> simp
theorem tabw_full (n : Nat) : ∀ m, tabw (fun _ => true) m = 2 ^ m - 1 := fun m => Nat.eq_of_testBit_eq fun j => by
  rw [tabw_bit, Nat.testBit_two_pow_sub_one, Bool.and_true]
/-- The same value everywhere. -/
theorem wd_const {W n m v : Nat} (hv : v < 2 ^ n) (h : v &&& m = v) : (wd W n m v == 0) = !sc W m v true (2 ^ n) ∧ (wd W n m v == 2 ^ 2 ^ n - 1) = !sc W m v false (2 ^ n) := by
  have key : ∀ b : Bool, sc W m v b (2 ^ n) = true ↔ ∃ x, x < 2 ^ n ∧ W.testBit (fx x m v) = b := fun b => by
    rw [sc_iff]
    constructor
    · rintro ⟨x, h1, h2, h3⟩; exact ⟨x, h1, by rw [fx_id h2]; exact h3⟩
    · rintro ⟨x, h1, h3⟩; exact ⟨fx x m v, fx_lt h1 hv, fx_and h, h3⟩
  constructor
  · cases hs : sc W m v true (2 ^ n) with
    | true =>
      obtain ⟨x, h1, h2⟩ := (key true).1 hs
      refine beq_eq_false_iff_ne.2 fun e => ?_
      have := wd_bit W n m v x
      rw [e, Nat.zero_testBit, decide_eq_true h1, h2] at this
      cases this
    | false =>
      refine beq_iff_eq.2 (Nat.eq_of_testBit_eq fun x => ?_)
      rw [wd_bit, Nat.zero_testBit]
      by_cases hx : x < 2 ^ n
      · cases hb : W.testBit (fx x m v) with
        | false => rw [Bool.and_false]
        | true => rw [(key true).2 ⟨x, hx, hb⟩] at hs; cases hs
      · rw [decide_eq_false hx, Bool.false_and]
  · cases hs : sc W m v false (2 ^ n) with
    | true =>
      obtain ⟨x, h1, h2⟩ := (key false).1 hs
      refine beq_eq_false_iff_ne.2 fun e => ?_
      have := wd_bit W n m v x
      rw [e, Nat.testBit_two_pow_sub_one, decide_eq_true h1, h2] at this
      cases this
    | false =>
      refine beq_iff_eq.2 (Nat.eq_of_testBit_eq fun x => ?_)
      rw [wd_bit, Nat.testBit_two_pow_sub_one]
      by_cases hx : x < 2 ^ n
      · cases hb : W.testBit (fx x m v) with
        | true => rw [Bool.and_true]
        | false => rw [(key false).2 ⟨x, hx, hb⟩] at hs; cases hs
      · rw [decide_eq_false hx, Bool.false_and]
theorem sc_either {W n m v : Nat} (hv : v < 2 ^ n) (h : v &&& m = v) : (sc W m v false (2 ^ n) || sc W m v true (2 ^ n)) = true := by
  cases hb : W.testBit v with
  | false => rw [(sc_iff W m v false _).2 ⟨v, hv, h, hb⟩]; rfl
  | true => rw [(sc_iff W m v true _).2 ⟨v, hv, h, hb⟩, Bool.or_true]

/-! ### Orders -/
def ext4 (n : Nat) : Nat → List Nat → List (List Nat)
  | 0, p => [p]
  | d + 1, p => (List.range n).flatMap fun x => if p.contains x then [] else ext4 n d (p ++ [x])
theorem flatMap_len {α : Type} (f : Nat → List α) (b : Nat) (h : ∀ x, (f x).length ≤ b) : ∀ m, ((List.range m).flatMap f).length ≤ m * b
  | 0 => by simp
  | m + 1 => by
    have h1 := flatMap_len f b h m
    have h2 := h m
    rw [List.range_succ, List.flatMap_append, List.length_append, List.flatMap_singleton, Nat.succ_mul]
    omega
theorem ext4_len (n : Nat) : ∀ d p, (ext4 n d p).length ≤ n ^ d
  | 0, p => by simp [ext4]
  | d + 1, p => by
    simp only [ext4]
    rw [Nat.pow_succ, Nat.mul_comm]
    refine flatMap_len _ _ (fun x => ?_) n
    split
    · exact Nat.zero_le _
    · exact ext4_len n d _
def prm (n : Nat) : List (List Nat) := ext4 n n []
/-- An order of variables. -/
def permB (n : Nat) (p : List Nat) : Bool := Nat.beq p.length n && ((List.range n).all fun i => p.contains i) && p.all (fun x => decide (x < n)) && ((List.range n).all fun i => (List.range i).all fun j => p.getD j 0 != p.getD i 0)
theorem prm_ok : ∀ n, n ≤ 4 → ((prm n).all (permB n) && decide (0 < (prm n).length) && decide ((prm n).length ≤ 24)) = true := by decide +kernel
theorem pow4 : ∀ n, n ≤ 4 → ∀ d, d ≤ 4 → n ^ d ≤ 256 := by decide +kernel
def lii (l : List (List Nat)) : List (List Int) := l.map li
theorem lii_app (l m : List (List Nat)) : lii (l ++ m) = lii l ++ lii m := by simp [lii]
theorem li_any (l : List Nat) (x : Nat) (h : l.length ≤ 100) (N : Nat) (hN : 1048576 < N) (n : Int) (out : List (List Int)) (K0 : Int → List Int → Int → Bool → List (List Int) → Option β) :
    spec_l4Perms_l2 N N n (li l) (x : Int) false 0 out K0 = K0 n (li l) x (l.contains x) out := by
  have e : l.contains x = (l.take l.length).contains x := by rw [List.take_length]
  rw [e]
  refine loop_st (fun F j => spec_l4Perms_l2 N F n (li l) (x : Int) ((l.take j).contains x) (j : Int) out K0) l.length _ (fun F j hj => ?_) (fun F => ?_) N 0 (by omega) (by omega)
  · simp only [spec_l4Perms_l2, spec_l4Perms_l2b, li_len, li_rd]
    rw [decide_eq_true (by omega), cond_true, w64_succ j (by omega), take_snoc l j hj, List.contains_append, List.contains_cons, List.contains_nil, Bool.or_false]
    cases (l.take j).contains x with
    | true => rfl
    | false =>
      rw [cond_false, gd_true (decide_eq_true (by omega)), gd_true rfl, Bool.false_or]
      congr 1
      rw [Bool.eq_iff_iff, beq_iff_eq, beq_iff_eq]
      omega
  · simp only [spec_l4Perms_l2, spec_l4Perms_l2b, li_len]
    rw [decide_eq_false (by omega), cond_false]

theorem spec_perms_f (N : Nat) (hN : 1048576 < N) (n : Nat) (hn : n ≤ 4) : ∀ (d F : Nat) (p : List Nat), p.length + d = n → d < F → ∀ K : List (List Int) → Option β,
    spec_l4Perms_f N F (n : Int) (li p) K = K (lii (ext4 n d p)) := by
  intro d
  induction d with
  | zero =>
    intro F p hp hF K
    obtain ⟨G, rfl⟩ : ∃ G, F = G + 1 := ⟨F - 1, by omega⟩
    simp only [spec_l4Perms_f, spec_l4Perms_b, li_len]
    rw [beq_iff_eq.2 (by omega : (p.length : Int) = (n : Int)), cond_true]
    rfl
  | succ d ih =>
    intro F p hp hF K
    obtain ⟨G, rfl⟩ : ∃ G, F = G + 1 := ⟨F - 1, by omega⟩
    simp only [spec_l4Perms_f, spec_l4Perms_b, li_len]
    rw [beq_eq_false_iff_ne.2 (by omega : (p.length : Int) ≠ (n : Int)), cond_false]
    have hpw := pow4 n hn d (by omega)
    refine loop_st (fun H x => spec_l4Perms_l0 N (spec_l4Perms_f N G) H (n : Int) (li p) (x : Int) (lii ((List.range x).flatMap fun x => if p.contains x then [] else ext4 n d (p ++ [x]))) fun e => K e) n _ (fun H x hx => ?_) (fun H => ?_) N 0 (by omega) (by omega)
    · simp only [spec_l4Perms_l0, spec_l4Perms_l0b]
      rw [decide_eq_true (by omega), cond_true, li_any p x (by omega) N hN, List.range_succ, List.flatMap_append, List.flatMap_singleton]
      have hl := flatMap_len (fun x => if p.contains x then [] else ext4 n d (p ++ [x])) 256 (fun x => by
        have := ext4_len n d (p ++ [x])
        show (if p.contains x then [] else ext4 n d (p ++ [x])).length ≤ 256
        split
        · exact Nat.zero_le _
        · omega) x
      cases hc : p.contains x with
      | true =>
        rw [Bool.not_true, cond_false, if_pos rfl, List.append_nil, w64_succ x (by omega)]
      | false =>
        have hlen := ext4_len n d (p ++ [x])
        rw [Bool.not_false, cond_true, if_neg (by decide)]
        simp only [List.nil_append]
        rw [gd_true (decide_eq_true (by simp [li_len]; omega)), gd_true (decide_eq_true (by simp [li_len]; omega)), ← li_snoc, ih G (p ++ [x]) (by simp; omega) (by omega), gd_true (decide_eq_true (by simp only [lii, List.length_map]; omega)), w64_succ x (by omega), lii_app]
    · simp only [spec_l4Perms_l0, spec_l4Perms_l0b]
      rw [decide_eq_false (by omega), cond_false]
      rfl
theorem spec_perms_eq (N : Nat) (hN : 1048576 < N) (n : Nat) (hn : n ≤ 4) (K : List (List Int) → Option β) : spec_l4Perms N (n : Int) [] K = K (lii (prm n)) := by
  unfold spec_l4Perms
  exact spec_perms_f N hN n hn n N [] (by simp) (by omega) K

/-- Which numbers are used. -/
def usedL (n : Nat) (p : List Nat) : List Bool := (List.range n).map fun x => p.contains x
theorem usedL_len (n : Nat) (p : List Nat) : (usedL n p).length = n := by simp [usedL]
theorem usedL_rd (n : Nat) (p : List Nat) (x : Nat) (h : x < n) : rd false (usedL n p) (x : Int) = p.contains x := by
  rw [rd_nat false _ x (by rw [usedL_len]; exact h)]
  simp [usedL]
theorem usedL_put (n : Nat) (p : List Nat) (x : Nat) : wr (usedL n p) (x : Int) true = usedL n (p ++ [x]) := by
  refine List.ext_getElem (by simp [wr, usedL]) fun i h1 h2 => ?_
  simp only [wr, usedL, Int.toNat_natCast, List.getElem_set, List.getElem_map, List.getElem_range]
  rw [List.contains_append, List.contains_cons, List.contains_nil, Bool.or_false]
  by_cases e : x = i
  · rw [if_pos e, e, beq_self_eq_true, Bool.or_true]
  · rw [if_neg e, beq_eq_false_iff_ne.2 (fun h => e h.symm), Bool.or_false]
theorem usedL_back (n : Nat) (p : List Nat) (x : Nat) (hx : p.contains x = false) : wr (usedL n (p ++ [x])) (x : Int) false = usedL n p := by
  refine List.ext_getElem (by simp [wr, usedL]) fun i h1 h2 => ?_
  simp only [wr, usedL, Int.toNat_natCast, List.getElem_set, List.getElem_map, List.getElem_range]
  rw [List.contains_append, List.contains_cons, List.contains_nil, Bool.or_false]
  by_cases e : x = i
  · rw [if_pos e, ← e, hx]
  · rw [if_neg e, beq_eq_false_iff_ne.2 (fun h => e h.symm), Bool.or_false]
theorem impl_perms_f (N : Nat) (hN : 1048576 < N) (n : Nat) (hn : n ≤ 4) : ∀ (d F : Nat) (p : List Nat) (out : List (List Int)), p.length + d = n → d < F → out.length + 2000 * d ≤ 100000 → ∀ K : Int → List Int → List (List Int) → List Bool → Option β,
    impl_permutations_1_g0_f N F (n : Int) (li p) out (usedL n p) K = K n (li p) (out ++ lii (ext4 n d p)) (usedL n p) := by
  intro d
  induction d with
  | zero =>
    intro F p out hp hF ho K
    obtain ⟨G, rfl⟩ : ∃ G, F = G + 1 := ⟨F - 1, by omega⟩
    simp only [impl_permutations_1_g0_f, impl_permutations_1_g0_b, li_len]
    rw [beq_iff_eq.2 (by omega : (p.length : Int) = (n : Int)), cond_true]
    simp only [List.nil_append]
    rw [gd_true (decide_eq_true (by simp; omega)), gd_true (decide_eq_true (by simp; omega))]
    rfl
  | succ d ih =>
    intro F p out hp hF ho K
    obtain ⟨G, rfl⟩ : ∃ G, F = G + 1 := ⟨F - 1, by omega⟩
    simp only [impl_permutations_1_g0_f, impl_permutations_1_g0_b, li_len]
    rw [beq_eq_false_iff_ne.2 (by omega : (p.length : Int) ≠ (n : Int)), cond_false]
    have hpw := pow4 n hn d (by omega)
    have h := loop_st (fun H x => impl_permutations_1_l0 N (impl_permutations_1_g0_f N G) H (n : Int) (x : Int) (n : Int) (li p) (out ++ lii ((List.range x).flatMap fun x => if p.contains x then [] else ext4 n d (p ++ [x]))) (usedL n p) fun e0 e1 e2 e3 => K e0 e1 e2 e3) n (K n (li p) (out ++ lii (ext4 n (d + 1) p)) (usedL n p)) (fun H x hx => ?_) (fun H => ?_) N 0 (by omega) (by omega)
    rotate_left
    · simp only [impl_permutations_1_l0, impl_permutations_1_l0b]
      rw [usedL_len, usedL_rd n p x hx, decide_eq_true (by omega : (x : Int) < (n : Int)), decide_eq_true (by omega : (0 : Int) ≤ (x : Int)), List.range_succ, List.flatMap_append, List.flatMap_singleton]
      simp only [cond_true, gd]
      have hl := flatMap_len (fun x => if p.contains x then [] else ext4 n d (p ++ [x])) 256 (fun x => by
        have := ext4_len n d (p ++ [x])
        show (if p.contains x then [] else ext4 n d (p ++ [x])).length ≤ 256
        split
        · exact Nat.zero_le _
        · omega) x
      cases hc : p.contains x with
      | true =>
        rw [Bool.not_true, cond_false, if_pos rfl, List.append_nil, w64_succ x (by omega)]
      | false =>
        rw [Bool.not_false, cond_true, if_neg (by decide), List.nil_append, ← li_snoc, usedL_put, decide_eq_true (by simp only [li_len, List.length_cons, List.length_nil]; omega), cond_true]
        rw [ih G (p ++ [x]) _ (by simp; omega) (by omega) (by simp only [lii, List.length_append, List.length_map]; omega)]
        rw [li_len, usedL_len, List.length_append, List.length_cons, List.length_nil, show w64 (((p.length + (0 + 1) : Nat) : Int) - 1) = (p.length : Int) by rw [w64_id (by omega) (by omega)]; omega, decide_eq_true (by omega : (0 : Int) ≤ (p.length : Int)), decide_eq_true (by omega : (p.length : Int) ≤ ((p.length + (0 + 1) : Nat) : Int)), decide_eq_true (by omega : (x : Int) < (n : Int)), usedL_back n p x hc, w64_succ x (by omega)]
        simp only [cond_true]
        have et : List.drop 0 (List.take (Int.toNat (p.length : Int)) (li (p ++ [x]))) = li p := by
          rw [List.drop_zero, Int.toNat_natCast, li_snoc, List.take_append_of_le_length (by rw [li_len]; exact Nat.le_refl _), List.take_of_length_le (by rw [li_len]; exact Nat.le_refl _)]
        rw [et, lii_app, List.append_assoc]
    · simp only [impl_permutations_1_l0, impl_permutations_1_l0b]
      rw [decide_eq_false (by omega), cond_false]
      rfl
    · simpa [lii] using h
theorem impl_perms_eq (N : Nat) (hN : 1048576 < N) (n : Nat) (hn : n ≤ 4) (K : List (List Int) → Option β) : impl_permutations N (n : Int) K = K (lii (prm n)) := by
  unfold impl_permutations
  rw [gd_true (decide_eq_true (by omega)), gd_true (decide_eq_true (by omega)), gd_true (decide_eq_true (by omega)), gd_true (decide_eq_true (by omega)), gd_true (decide_eq_true (by omega)), Int.toNat_natCast]
  have e : List.replicate n false = usedL n [] := by
    refine (List.eq_replicate_iff.2 ⟨usedL_len n [], fun b hb => ?_⟩).symm
    obtain ⟨x, _, rfl⟩ := List.mem_map.1 hb
    rfl
  have h := impl_perms_f (β := β) N hN n hn n N [] [] (by simp) (by omega) (by simp; omega) (fun _ _ r2_2 _ => K r2_2)
  rw [e]
  unfold impl_permutations_1_g0
  exact h
end Go.Proofs.YtfdggelojmofmaaDoor
