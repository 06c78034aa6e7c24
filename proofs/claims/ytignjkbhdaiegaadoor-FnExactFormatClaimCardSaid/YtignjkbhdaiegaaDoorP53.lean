/- A claim, written: both texts write the same. -/
import Derived.Test.YtignjkbhdaiegaaDoorP52
namespace Go.Proofs.YtignjkbhdaiegaaDoor
open Go.Rv
variable {β : Type}
def hd3 (a0 : Int) (n w : Nat) (a3 : Int) : List (List UInt8) := [cword a0, tbits w (2 ^ n), Lib.itoa (clamp a3)]
def byL (x : List UInt8) : List (List UInt8) := [[98, 121], x]
def sideL (a4 : Int) : List (List UInt8) := [[115, 105, 100, 101], Lib.itoa (clamp a4)]
/-- A claim's text. -/
def fclaim (N : Nat) (a0 : Int) (n w : Nat) (a3 a4 : Int) (s : List UInt8) (l : List Int) : List UInt8 :=
  cond (a0 == 1) (cond (isTree N s) (Lib.join (hd3 a0 n w a3 ++ byL s) [32]) [])
    (cond (a0 == 4) (cond (isForm s) (Lib.join (hd3 a0 n w a3 ++ byL s) [32]) [])
      (cond (a0 == 5) (cond (isProt N s) (Lib.join (hd3 a0 n w a3 ++ (sideL a4 ++ byL s)) [32]) [])
        (Lib.join (hd3 a0 n w a3 ++ byL (shortL l)) [32])))

theorem joinB_B' (l : List (List UInt8)) (s : List UInt8) : joinB (l.map B) (B s) = B (Lib.join l s) := by
  unfold joinB B
  rw [List.map_map]
  have : ((fun x : ByteArray => x.data.toList) ∘ fun l : List UInt8 => (⟨l.toArray⟩ : ByteArray)) = id := by
    funext l
    simp
  rw [this]
  simp
theorem strings_Join_eq (N : Nat) (ls : List ByteArray) (l : List (List UInt8)) (h : ls = l.map B) (hl : l.length ≤ 100) (hs : (Lib.join l [32]).length ≤ 140737488355328) (k : ByteArray → Option β) : strings_Join N ls (strOf [32]) k = k (B (Lib.join l [32])) := by
  unfold strings_Join
  rw [h, show strOf [32] = B [32] from rfl, joinB_B', gd_true (decide_eq_true (by rw [List.length_map]; omega)), gd_true (decide_eq_true (by rw [B_size]; exact hs))]
theorem by_len (a0 : Int) (n w : Nat) (a3 : Int) (x : List UInt8) (hn : n ≤ 5) (hx : x.length ≤ 2000000) : (Lib.join (hd3 a0 n w a3 ++ byL x) [32]).length ≤ 140737488355328 := by
  have h1 := cword_len a0
  have h2 := (itoa_len _ (clamp_in a3)).1
  have h3 := size_le hn
  simp [hd3, byL, Lib.join, List.intercalate, tbits_len]
  omega
theorem side_len (a0 : Int) (n w : Nat) (a3 a4 : Int) (x : List UInt8) (hn : n ≤ 5) (hx : x.length ≤ 2000000) : (Lib.join (hd3 a0 n w a3 ++ (sideL a4 ++ byL x)) [32]).length ≤ 140737488355328 := by
  have h1 := cword_len a0
  have h2 := (itoa_len _ (clamp_in a3)).1
  have h4 := (itoa_len _ (clamp_in a4)).1
  have h3 := size_le hn
  simp [hd3, sideL, byL, Lib.join, List.intercalate, tbits_len]
  omega

theorem spec_FormatClaim_n (N : Nat) (a0 : Int) (n w : Nat) (a3 a4 : Int) (s : List UInt8) (l : List Int) (hN : 1048576 < N) (hn : n ≤ 5) (hw : w < 2 ^ 2 ^ n) (hs : s.length ≤ 1048576) (hl : l.length ≤ 1048576) (hc : (cword a0 == []) = false) (k : ByteArray → Option β) :
    spec_FormatClaim N a0 (n : Int) (w : Int) a3 a4 (B s) l k = k (B (fclaim N a0 n w a3 a4 s l)) := by
  have h1 := cword_len a0
  have h2 := (itoa_len _ (clamp_in a3)).1
  have h4 := (itoa_len _ (clamp_in a4)).1
  have h3 := size_le hn
  have h5 := shortL_len l
  have t1 := tbits_len w (2 ^ n)
  unfold spec_FormatClaim
  rw [spec_ClaimWord_eq, B_nil, B_toList, B_toList, hc, cond_false, spec_IsTable_eq, isTn hn hw, Bool.not_true, cond_false]
  have f3 : ∀ k', spec_FormatInt (β := β) N (mxI (-99) (mnI 99 a3)) k' = k' (B (Lib.itoa (clamp a3))) := fun k' => spec_FormatInt_eq N (by omega) _ (clamp_in _) k'
  have f4 : ∀ k', spec_FormatInt (β := β) N (mxI (-99) (mnI 99 a4)) k' = k' (B (Lib.itoa (clamp a4))) := fun k' => spec_FormatInt_eq N (by omega) _ (clamp_in _) k'
  simp only [spec_FormatTable_n N n w (by omega) hn hw, f3, f4, spec_IsTree_eq N hN s hs, spec_IsForm_eq N hN s, spec_IsProtocol_eq N hN s, spec_l33Numbers_eq N hN l hl, B_strOf, B_app, B_size]
  have q : ∀ (m : Nat) (x : Option β), m ≤ 9223372036854775807 → gd (decide (m ≤ 9223372036854775807)) x = x := fun m x h => gd_true (decide_eq_true h)
  rw [q _ _ (by simp; omega), q _ _ (by simp; omega), q _ _ (by simp; omega), q _ _ (by simp; omega)]
  unfold fclaim
  cases a0 == 1 with
  | true =>
    simp only [cond_true]
    cases isTree N s with
    | false => rfl
    | true =>
      simp only [Bool.not_true, cond_false, cond_true]
      rw [q _ _ (by simp; omega), q _ _ (by simp; omega)]
      congr 2
      simp [hd3, byL, Lib.join, List.intercalate]
  | false =>
    simp only [cond_false]
    cases a0 == 4 with
    | true =>
      simp only [cond_true]
      cases isForm s with
      | false => rfl
      | true =>
        simp only [Bool.not_true, cond_false, cond_true]
        rw [q _ _ (by simp; omega), q _ _ (by simp; omega)]
        congr 2
        simp [hd3, byL, Lib.join, List.intercalate]
    | false =>
      simp only [cond_false]
      cases a0 == 5 with
      | true =>
        simp only [cond_true]
        cases isProt N s with
        | false => rfl
        | true =>
          simp only [Bool.not_true, cond_false, cond_true]
          rw [q _ _ (by simp; omega), q _ _ (by simp; omega), q _ _ (by simp; omega), q _ _ (by simp; omega)]
          congr 2
          simp [hd3, sideL, byL, Lib.join, List.intercalate]
      | false =>
        simp only [cond_false]
        rw [q _ _ (by simp; omega), q _ _ (by simp; omega)]
        congr 2
        simp [hd3, byL, Lib.join, List.intercalate]

theorem impl_FormatClaim_n (N : Nat) (a0 : Int) (n w : Nat) (a3 a4 : Int) (s : List UInt8) (l : List Int) (hN : 1048576 < N) (hn : n ≤ 5) (hw : w < 2 ^ 2 ^ n) (hs : s.length ≤ 1048576) (hl : l.length ≤ 1048576) (hc : (cword a0 == []) = false) (k : ByteArray → Option β) :
    impl_FormatClaim N a0 (n : Int) (w : Int) a3 a4 (B s) l k = k (B (fclaim N a0 n w a3 a4 s l)) := by
  have hw' := w_small hn hw
  have h5 := shortL_len l
  unfold impl_FormatClaim
  rw [impl_ClaimWord_eq, B_nil, B_toList, B_toList, hc, cond_false, impl_IsTable_eq N _ _ (by omega), isTn hn hw, Bool.not_true, cond_false, impl_ClaimWord_eq, impl_FormatTable_n N n w (by omega) hn hw, impl_written_eq, impl_writtenList_eq N hN l hl]
  have q : ∀ (m : Nat) (x : Option β), m ≤ 140737488355328 → gd (decide (m ≤ 140737488355328)) x = x := fun m x h => gd_true (decide_eq_true h)
  unfold fclaim
  cases a0 == 1 with
  | true =>
    rw [cond_true, cond_true, impl_IsTree_eq N hN s hs]
    cases isTree N s with
    | false => rfl
    | true =>
      rw [Bool.not_true, cond_false, cond_true, q _ _ (by simp)]
      exact strings_Join_eq N _ (hd3 a0 n w a3 ++ byL s) (by simp [hd3, byL, B_strOf]) (by simp [hd3, byL]) (by_len a0 n w a3 s hn (by omega)) k
  | false =>
    rw [cond_false, cond_false]
    cases a0 == 4 with
    | true =>
      rw [cond_true, cond_true, impl_IsFormula_eq N hN s]
      cases isForm s with
      | false => rfl
      | true =>
        rw [Bool.not_true, cond_false, cond_true, q _ _ (by simp)]
        exact strings_Join_eq N _ (hd3 a0 n w a3 ++ byL s) (by simp [hd3, byL, B_strOf]) (by simp [hd3, byL]) (by_len a0 n w a3 s hn (by omega)) k
    | false =>
      rw [cond_false, cond_false]
      cases a0 == 5 with
      | true =>
        rw [cond_true, cond_true, impl_IsProtocol_eq N hN s, impl_written_eq, q _ _ (by simp)]
        cases isProt N s with
        | false => rfl
        | true =>
          rw [Bool.not_true, cond_false, cond_true, q _ _ (by simp)]
          exact strings_Join_eq N _ (hd3 a0 n w a3 ++ (sideL a4 ++ byL s)) (by simp [hd3, sideL, byL, B_strOf]) (by simp [hd3, sideL, byL]) (side_len a0 n w a3 a4 s hn (by omega)) k
      | false =>
        rw [cond_false, cond_false, q _ _ (by simp)]
        exact strings_Join_eq N _ (hd3 a0 n w a3 ++ byL (shortL l)) (by simp [hd3, byL, B_strOf]) (by simp [hd3, byL]) (by_len a0 n w a3 _ hn (by omega)) k

theorem FormatClaim_none (N : Nat) (a0 a1 a2 a3 a4 : Int) (s : ByteArray) (l : List Int) (h2 : -9223372036854775808 ≤ a2 ∧ a2 ≤ 9223372036854775807) (h : (cword a0 == []) = true ∨ isT a1 a2 = false) (k : ByteArray → Option β) :
    spec_FormatClaim N a0 a1 a2 a3 a4 s l k = k ByteArray.empty ∧ impl_FormatClaim N a0 a1 a2 a3 a4 s l k = k ByteArray.empty := by
  constructor
  · unfold spec_FormatClaim
    rw [spec_ClaimWord_eq, B_toList, B_nil, B_toList]
    cases hc : (cword a0 == []) with
    | true => rfl
    | false =>
      rcases h with h | h
      · rw [hc] at h; cases h
      · rw [cond_false, spec_IsTable_eq, h]; rfl
  · unfold impl_FormatClaim
    rw [impl_ClaimWord_eq, B_toList, B_nil, B_toList]
    cases hc : (cword a0 == []) with
    | true => rfl
    | false =>
      rcases h with h | h
      · rw [hc] at h; cases h
      · rw [cond_false, impl_IsTable_eq N _ _ (by omega), h]; rfl

theorem law_FormatClaim (N : Nat) (hN : 1048576 < N) (a0 a1 a2 a3 a4 : Int) (s : ByteArray) (l : List Int) (_ : -9223372036854775808 ≤ a0 ∧ a0 ≤ 9223372036854775807) (_ : -9223372036854775808 ≤ a1 ∧ a1 ≤ 9223372036854775807) (i2 : -9223372036854775808 ≤ a2 ∧ a2 ≤ 9223372036854775807)
    (_ : -9223372036854775808 ≤ a3 ∧ a3 ≤ 9223372036854775807) (_ : -9223372036854775808 ≤ a4 ∧ a4 ≤ 9223372036854775807) (hs : (s.size : Int) ≤ 9223372036854775807) (hl : (l.length : Int) ≤ 9223372036854775807) (k : Bool → Option β) :
    laws_FnExactFormatClaim N a0 a1 a2 a3 a4 s l k = k true := by
  unfold laws_FnExactFormatClaim
  rw [laws_szClaim_eq N a0 a1 a2 a3 a4 s l _ (by omega) (by omega) hs hl]
  by_cases h1 : (1048576 : Int) < (s.size : Int)
  · rw [if_pos h1]; rfl
  · rw [if_neg h1]
    by_cases h2 : (1048576 : Int) - (s.size : Int) < (l.length : Int)
    · rw [if_pos h2]; rfl
    · rw [if_neg h2, decide_eq_false (by omega : ¬ (1048576 : Int) - (s.size : Int) - (l.length : Int) < 0), cond_false]
      have hl' : l.length ≤ 1048576 := by omega
      have hs' : s.size ≤ 1048576 := by omega
      have fin : ∀ t : ByteArray, cond (!(t.toList == t.toList)) (k false) (laws_toClaim N a0 a1 a2 a3 a4 s l fun r25 r26 r27 r28 r29 r30 r31 => laws_eqClaim N a0 a1 a2 a3 a4 s l r25 r26 r27 r28 r29 r30 r31 fun r32 => cond (!r32) (k false) (k true)) = k true := by
        intro t
        rw [beq_self_eq_true, Bool.not_true, cond_false, laws_toClaim_eq N _ _ _ _ _ _ _ hl' hN, laws_eqClaim_same N _ _ _ _ _ _ _ hl' hN]
        rfl
      rw [laws_toClaim_eq N _ _ _ _ _ _ _ hl' hN]
      by_cases hh : (cword a0 == []) = true ∨ isT a1 a2 = false
      · rw [(FormatClaim_none N a0 a1 a2 a3 a4 s l i2 hh _).1, laws_toClaim_eq N _ _ _ _ _ _ _ hl' hN, (FormatClaim_none N a0 a1 a2 a3 a4 s l i2 hh _).2]
        exact fin _
      · have hc : (cword a0 == []) = false := eq_false_of_ne_true fun e => hh (.inl e)
        have hT : isT a1 a2 = true := by
          cases h : isT a1 a2 with
          | true => rfl
          | false => exact absurd (.inr h) hh
        obtain ⟨n, w, rfl, rfl, hn, hw, _⟩ := isT_nat hT
        obtain ⟨c, rfl⟩ : ∃ c, s = B c := ⟨s.data.toList, (B_data s).symm⟩
        rw [B_size] at hs'
        rw [spec_FormatClaim_n N a0 n w a3 a4 c l hN hn hw hs' hl' hc, laws_toClaim_eq N _ _ _ _ _ _ _ hl' hN, impl_FormatClaim_n N a0 n w a3 a4 c l hN hn hw hs' hl' hc]
        exact fin _
end Go.Proofs.YtignjkbhdaiegaaDoor
