/- Plain laws of the texts: the line of a split. -/
import Derived.Test.YtfdggelojmofmaaDoorP66
namespace Go.Proofs.YtfdggelojmofmaaDoor
open Go.Rv
set_option linter.unusedVariables false
variable {β : Type}
theorem joinB_B' (l : List (List UInt8)) (s : List UInt8) : joinB (l.map B) (B s) = B (Lib.join l s) := by
  unfold joinB B
  rw [List.map_map]
  have : ((fun x : ByteArray => x.data.toList) ∘ fun l : List UInt8 => (⟨l.toArray⟩ : ByteArray)) = id := by
    funext l
    simp
  rw [this]
  simp
theorem B_of (x : ByteArray) : x = B x.data.toList := by
  unfold B
  rw [Array.toArray_toList]
/-- The line. -/
def splitL (R rk dc fl : List UInt8) (more : List (List UInt8)) : List UInt8 :=
  Lib.join ([[115, 112, 108, 105, 116], [114, 111, 119, 115], R, [114, 97, 110, 107], rk, [100, 105, 102, 102, 101, 114, 101, 110, 116], dc, [102, 111, 111, 108, 105, 110, 103], fl] ++ more) [32]
def twoL (a b : Nat) : List UInt8 := Lib.itoa (a : Int) ++ [44] ++ Lib.itoa (b : Int)
def moreL (fine : Bool) (bt pr : List UInt8) : List (List UInt8) := cond fine [[98, 105, 116, 115], bt, [112, 114, 111, 116, 111, 99, 111, 108], pr] []
theorem nat_in (n : Nat) (h : n ≤ 1000000) : in64 (n : Int) := ⟨by omega, by omega⟩
theorem prot_B (N : Nat) (a0 a1 a2 : Int) (hf : fineT a0 a1 a2 = true) : ∃ l : List UInt8, prot N a0 a1 a2 = B l ∧ l.length ≤ 4000000000 := by
  obtain ⟨n, w, k, rfl, rfl, rfl, hn, hw, _, hk, hkn, hq⟩ := fineT_nat hf
  refine ⟨_, B_of _, ?_⟩
  have h1 := (top_ok k hk).2.2
  have h2 := (top_ok (n - k) hq).2.2
  have := bs_small (bothOn w n k) (isOne w n k) N (top k) (top (n - k)) h1 h2
  unfold prot
  rw [show ((n : Int) - (k : Int)) = ((n - k : Nat) : Int) by omega]
  simp only [Int.toNat_natCast]
  exact this
theorem bits21_le (a0 a1 a2 : Int) (hf : fineT a0 a1 a2 = true) : bits21 a0 a1 a2 ≤ 4 := by
  obtain ⟨n, w, k, rfl, rfl, rfl, hn, hw, _, hk, hkn, hq⟩ := fineT_nat hf
  unfold bits21
  rw [show ((n : Int) - (k : Int)) = ((n - k : Nat) : Int) by omega]
  simp only [Int.toNat_natCast]
  exact need_le4 (mixed_single w n k hk hkn hq) _ _ (top_ok k hk).2.2 (top_ok (n - k) hq).2.2

section
variable (N n W k : Nat) (hN : 1048576 < N) (hn : n ≤ 4) (hkn : k ≤ n) (hW : W < 2 ^ 2 ^ n)
include hN hn hkn hW
theorem split_facts : (rowsN W k (2 ^ (n - k)) (2 ^ k)).length ≤ 16 ∧ (∀ r ∈ rowsN W k (2 ^ (n - k)) (2 ^ k), r < 65536) ∧ (∀ x ∈ rows W k (2 ^ (n - k)) (2 ^ k), in64 x) ∧
    (rows W k (2 ^ (n - k)) (2 ^ k)).length ≤ 16 ∧ ml W k 0 (2 ^ n) 0 [] ≤ 16 ∧ ml W k 1 (2 ^ n) 0 [] ≤ 16 := by
  have _ := hW; have _ := hN
  have h1 := sz4 hn
  have h2 : 2 ^ k ≤ 16 := sz4 (by omega)
  have h3 : 2 ^ (n - k) ≤ 16 := sz4 (by omega)
  have h4 := rowsN_lt W k (2 ^ (n - k)) (2 ^ k) h3
  have h5 := ml_bound W k 0 (2 ^ n) 0 []
  have h6 := ml_bound W k 1 (2 ^ n) 0 []
  simp only [List.length_nil] at h5 h6
  refine ⟨by rw [rowsN_len]; exact h2, h4, fun x hx => ?_, by rw [rows_len]; exact h2, by omega, by omega⟩
  rw [rows_li] at hx
  obtain ⟨y, hy, rfl⟩ := List.mem_map.1 hx
  have := h4 y hy
  exact nat_in y (by omega)

theorem spec_SplitLine_n (pr : List UInt8) (hp : fineT n W k = true → prot N n W k = B pr ∧ pr.length ≤ 4000000000) (K : ByteArray → Option β) : zj58 N (n : Int) (W : Int) (k : Int) K =
    K (B (splitL (textL (rows W k (2 ^ (n - k)) (2 ^ k))) (Lib.itoa (rkn [] (rowsN W k (2 ^ (n - k)) (2 ^ k)) : Int)) (Lib.itoa (dcn [] (rowsN W k (2 ^ (n - k)) (2 ^ k)) : Int)) (twoL (ml W k 0 (2 ^ n) 0 []) (ml W k 1 (2 ^ n) 0 []))
      (moreL (fineT n W k) (Lib.itoa (bits21 n W k : Int)) pr))) := by
  obtain ⟨f1, f2, f3, f4, f5, f6⟩ := split_facts N n W k hN hn hkn hW
  have f7 := rkn_le (rowsN W k (2 ^ (n - k)) (2 ^ k)) []
  have f8 := dcn_le (rowsN W k (2 ^ (n - k)) (2 ^ k)) []
  have i1 := nat_in _ (by omega : rkn [] (rowsN W k (2 ^ (n - k)) (2 ^ k)) ≤ 1000000)
  have i2 := nat_in _ (by omega : dcn [] (rowsN W k (2 ^ (n - k)) (2 ^ k)) ≤ 1000000)
  have i3 := nat_in _ (by omega : ml W k 0 (2 ^ n) 0 [] ≤ 1000000)
  have i4 := nat_in _ (by omega : ml W k 1 (2 ^ n) 0 [] ≤ 1000000)
  have l0 := textL_len _ f3
  have l1 := (itoa_len _ i1).1
  have l2 := (itoa_len _ i2).1
  have l3 := (itoa_len _ i3).1
  have l4 := (itoa_len _ i4).1
  obtain ⟨ra, a1, a2⟩ := spec_LargestFooling_n (β := β) N W n k 0 (by omega) hn hkn hW (by decide)
  obtain ⟨rb, b1, b2⟩ := spec_LargestFooling_n (β := β) N W n k 1 (by omega) hn hkn hW (by decide)
  simp only [Int.natCast_zero] at a2
  have b2 : ∀ K : List Int → Bool → Option β, zj18 N (n : Int) (W : Int) (k : Int) 1 K = K rb true := b2
  unfold zj58
  rw [spec_MatrixOf_n N (by omega) n W k (by omega) hkn hW, Bool.not_true, cond_false, decide_eq_false (by omega : ¬ (n : Int) > 4), cond_false, a2, b2, spec_l34Numbers_eq N hN _ (by omega) f3, a1, b1]
  simp only [B_strOf, B_app, B_size]
  rw [gd_true (decide_eq_true (by simp; omega)), gd_true (decide_eq_true (by simp; omega)), rows_li, spec_RankMod2_n N (by omega) _ f1 f2, spec_FormatInt_eq N (by omega) _ i1]
  rw [← rows_li]
  simp only [B_app, B_size]
  rw [gd_true (decide_eq_true (by simp; omega)), gd_true (decide_eq_true (by simp; omega))]
  rw [rows_li, spec_DifferentRows_n N (by omega) _ f1, spec_FormatInt_eq N (by omega) _ i2]
  rw [← rows_li]
  simp only [B_app, B_size]
  rw [gd_true (decide_eq_true (by simp; omega)), gd_true (decide_eq_true (by simp; omega)), spec_FormatInt_eq N (by omega) _ i3]
  simp only [B_app, B_size]
  rw [gd_true (decide_eq_true (by simp; omega)), gd_true (decide_eq_true (by simp; omega)), spec_FormatInt_eq N (by omega) _ i4]
  simp only [B_app, B_size]
  rw [gd_true (decide_eq_true (by simp; omega)), spec_l21Fine_eq N n W k ⟨by omega, by omega⟩]
  cases hf : fineT (n : Int) (W : Int) (k : Int) with
  | false =>
    rw [cond_false]
    congr 2
    simp [splitL, moreL, twoL, Lib.join, List.intercalate]
  | true =>
    obtain ⟨h1, h2⟩ := hp hf
    have h3 := bits21_le n W k hf
    have i5 := nat_in _ (by omega : bits21 n W k ≤ 1000000)
    have l5 := (itoa_len _ i5).1
    rw [cond_true, spec_ProtocolOf_eq N (by omega) _ _ _ ⟨by omega, by omega⟩, if_pos hf, gd_true (decide_eq_true (by simp; omega)), spec_LeastBits_eq N (by omega) _ _ _ ⟨by omega, by omega⟩, if_pos hf, spec_FormatInt_eq N (by omega) _ i5, h1]
    simp only [B_app, B_size]
    rw [gd_true (decide_eq_true (by simp; omega)), gd_true (decide_eq_true (by simp; omega)), gd_true (decide_eq_true (by simp; omega))]
    congr 2
    simp [splitL, moreL, twoL, Lib.join, List.intercalate]

theorem impl_SplitLine_n (pr : List UInt8) (hp : fineT n W k = true → prot N n W k = B pr ∧ pr.length ≤ 4000000000) (K : ByteArray → Option β) : zj122 N (n : Int) (W : Int) (k : Int) K =
    K (B (splitL (textL (rows W k (2 ^ (n - k)) (2 ^ k))) (Lib.itoa (rkn [] (rowsN W k (2 ^ (n - k)) (2 ^ k)) : Int)) (Lib.itoa (dcn [] (rowsN W k (2 ^ (n - k)) (2 ^ k)) : Int)) (twoL (ml W k 0 (2 ^ n) 0 []) (ml W k 1 (2 ^ n) 0 []))
      (moreL (fineT n W k) (Lib.itoa (bits21 n W k : Int)) pr))) := by
  have hw' := two32 (by omega) hW
  obtain ⟨f1, f2, f3, f4, f5, f6⟩ := split_facts N n W k hN hn hkn hW
  have f7 := rkn_le (rowsN W k (2 ^ (n - k)) (2 ^ k)) []
  have f8 := dcn_le (rowsN W k (2 ^ (n - k)) (2 ^ k)) []
  have i1 := nat_in _ (by omega : rkn [] (rowsN W k (2 ^ (n - k)) (2 ^ k)) ≤ 1000000)
  have i2 := nat_in _ (by omega : dcn [] (rowsN W k (2 ^ (n - k)) (2 ^ k)) ≤ 1000000)
  have i3 := nat_in _ (by omega : ml W k 0 (2 ^ n) 0 [] ≤ 1000000)
  have i4 := nat_in _ (by omega : ml W k 1 (2 ^ n) 0 [] ≤ 1000000)
  have l0 := textL_len _ f3
  have l1 := (itoa_len _ i1).1
  have l2 := (itoa_len _ i2).1
  have l3 := (itoa_len _ i3).1
  have l4 := (itoa_len _ i4).1
  obtain ⟨ra, a1, a2⟩ := impl_LargestFooling_n (β := β) N W n k 0 hN hn hkn hW (by decide)
  obtain ⟨rb, b1, b2⟩ := impl_LargestFooling_n (β := β) N W n k 1 hN hn hkn hW (by decide)
  simp only [Int.natCast_zero] at a2
  have b2 : ∀ K : List Int → Bool → Option β, zj81 N (n : Int) (W : Int) (k : Int) 1 K = K rb true := b2
  have etwo : textL [((ml W k 0 (2 ^ n) 0 [] : Nat) : Int), ((ml W k 1 (2 ^ n) 0 [] : Nat) : Int)] = twoL (ml W k 0 (2 ^ n) 0 []) (ml W k 1 (2 ^ n) 0 []) := by
    rw [textL_join _ (by simp)]
    simp [twoL, Lib.join, List.intercalate]
  unfold zj122
  rw [impl_isSplit_eq N _ _ _ (by omega), isTn (by omega) hW, decide_eq_true (by omega : (0 : Int) ≤ (k : Int)), decide_eq_true (by omega : (k : Int) ≤ (n : Int)), Bool.and_self, Bool.and_self, Bool.not_true, cond_false, decide_eq_false (by omega : ¬ (n : Int) > 4), cond_false]
  rw [impl_rows_n N (by omega) n W k hn hkn hW, a2, b2, impl_listText_eq N hN _ (by omega) f3, a1, b1, rows_li, impl_RankMod2_n N hN _ f1 f2, impl_FormatInt_eq N _ i1, impl_DifferentRows_n N (by omega) _ f1, impl_FormatInt_eq N _ i2, ← rows_li]
  unfold zj120
  rw [gd_true (decide_eq_true (by simp))]
  dsimp only [List.nil_append, List.cons_append]
  rw [impl_listText_eq N hN _ (by simp) (fun x hx => by
    rcases List.mem_cons.1 hx with rfl | hx
    · exact i3
    · simp only [List.mem_singleton] at hx
      subst hx; exact i4), etwo, gd_true (decide_eq_true (by simp))]
  rw [impl_ProtocolOf_eq N (by omega) _ _ _ ⟨by omega, by omega⟩ ⟨by omega, by omega⟩ ⟨by omega, by omega⟩]
  unfold zj121 strings_Join
  simp only [B_strOf]
  have ltwo : (twoL (ml W k 0 (2 ^ n) 0 []) (ml W k 1 (2 ^ n) 0 [])).length ≤ 41 := by
    simp only [twoL, List.length_append, List.length_cons, List.length_nil]; omega
  generalize twoL (ml W k 0 (2 ^ n) 0 []) (ml W k 1 (2 ^ n) 0 []) = tw at ltwo ⊢
  generalize Lib.itoa (rkn [] (rowsN W k (2 ^ (n - k)) (2 ^ k)) : Int) = rk at l1 ⊢
  generalize Lib.itoa (dcn [] (rowsN W k (2 ^ (n - k)) (2 ^ k)) : Int) = dc at l2 ⊢
  generalize textL (rows W k (2 ^ (n - k)) (2 ^ k)) = R at l0 ⊢
  cases hf : fineT (n : Int) (W : Int) (k : Int) with
  | false =>
    rw [if_neg (by decide), cond_false, gd_true (decide_eq_true (by simp))]
    have e := joinB_B' ([[115, 112, 108, 105, 116], [114, 111, 119, 115], R, [114, 97, 110, 107], rk, [100, 105, 102, 102, 101, 114, 101, 110, 116], dc, [102, 111, 111, 108, 105, 110, 103], tw] ++ []) [32]
    have hlen : (splitL R rk dc tw (moreL false (Lib.itoa (bits21 n W k : Int)) pr)).length ≤ 100000 := by
      simp [splitL, moreL, Lib.join, List.intercalate]
      omega
    refine Eq.trans ?_ (show gd (decide ((B (splitL R rk dc tw (moreL false (Lib.itoa (bits21 n W k : Int)) pr))).size ≤ 140737488355328)) (K (B _)) = _ from gd_true (decide_eq_true (by rw [B_size]; omega)))
    unfold splitL moreL
    rw [cond_false, ← e]
    rfl
  | true =>
    obtain ⟨h1, h2⟩ := hp hf
    have h3 := bits21_le n W k hf
    have i5 := nat_in _ (by omega : bits21 n W k ≤ 1000000)
    have l5 := (itoa_len _ i5).1
    rw [if_pos rfl, cond_true, impl_LeastBits_eq N (by omega) _ _ _ ⟨by omega, by omega⟩ ⟨by omega, by omega⟩ ⟨by omega, by omega⟩, if_pos hf, impl_FormatInt_eq N _ i5, h1, gd_true (decide_eq_true (by simp)), gd_true (decide_eq_true (by simp))]
    generalize Lib.itoa (bits21 n W k : Int) = bt at l5 ⊢
    have e := joinB_B' ([[115, 112, 108, 105, 116], [114, 111, 119, 115], R, [114, 97, 110, 107], rk, [100, 105, 102, 102, 101, 114, 101, 110, 116], dc, [102, 111, 111, 108, 105, 110, 103], tw] ++ [[98, 105, 116, 115], bt, [112, 114, 111, 116, 111, 99, 111, 108], pr]) [32]
    have hlen : (splitL R rk dc tw (moreL true bt pr)).length ≤ 4000100000 := by
      simp [splitL, moreL, Lib.join, List.intercalate]
      omega
    refine Eq.trans ?_ (show gd (decide ((B (splitL R rk dc tw (moreL true bt pr))).size ≤ 140737488355328)) (K (B _)) = _ from gd_true (decide_eq_true (by rw [B_size]; omega)))
    unfold splitL moreL
    rw [cond_true, ← e]
    rfl
end

theorem law_SplitLine (N : Nat) (hN : 1048576 < N) (a0 a1 a2 : Int) (h0 : -9223372036854775808 ≤ a0 ∧ a0 ≤ 9223372036854775807) (h1 : -9223372036854775808 ≤ a1 ∧ a1 ≤ 9223372036854775807) (h2 : -9223372036854775808 ≤ a2 ∧ a2 ≤ 9223372036854775807) (k : Bool → Option β) :
    laws_FnExactSplitLine N a0 a1 a2 k = k true := by
  unfold laws_FnExactSplitLine zj0
  have bad : (isT a0 a1 && (decide (0 ≤ a2) && decide (a2 ≤ a0)) && decide (a0 ≤ 4)) = false → zj58 N a0 a1 a2 (fun r6 => zj122 N a0 a1 a2 fun r9 => cond (!(r9.toList == r6.toList)) (k false) (k true)) = k true := fun hb => by
    have hi : ∀ K : ByteArray → Option β, zj122 N a0 a1 a2 K = K ByteArray.empty := fun K => by
      unfold zj122
      rw [impl_isSplit_eq N a0 a1 a2 (by omega)]
      cases hT : (isT a0 a1 && (decide (0 ≤ a2) && decide (a2 ≤ a0))) with
      | false => rfl
      | true =>
        rw [hT, Bool.true_and] at hb
        have hb := of_decide_eq_false hb
        rw [Bool.not_true, cond_false, decide_eq_true (by omega), cond_true]
    have hs : ∀ K : ByteArray → Option β, zj58 N a0 a1 a2 K = K ByteArray.empty := fun K => by
      unfold zj58
      cases hT : (isT a0 a1 && (decide (0 ≤ a2) && decide (a2 ≤ a0))) with
      | false =>
        unfold zj7
        rw [spec_IsTable_eq]
        cases h3 : isT a0 a1 with
        | false => rfl
        | true =>
          rw [h3, Bool.true_and] at hT
          rw [spec_l1In_eq, hT]
          rfl
      | true =>
        rw [hT, Bool.true_and] at hb
        have hb := of_decide_eq_false hb
        simp only [Bool.and_eq_true, decide_eq_true_eq] at hT
        obtain ⟨n, W, rfl, rfl, hn, hW, _⟩ := isT_nat hT.1
        obtain ⟨kk, rfl⟩ := Int.eq_ofNat_of_zero_le hT.2.1
        rw [spec_MatrixOf_n N (by omega) n W kk hn (by omega) hW, Bool.not_true, cond_false, decide_eq_true (by omega), cond_true]
    rw [hs, hi, beq_self_eq_true]
    rfl
  cases hg : (isT a0 a1 && (decide (0 ≤ a2) && decide (a2 ≤ a0)) && decide (a0 ≤ 4)) with
  | false => exact bad hg
  | true =>
    simp only [Bool.and_eq_true, decide_eq_true_eq] at hg
    obtain ⟨n, W, rfl, rfl, hn, hW, _⟩ := isT_nat hg.1.1
    obtain ⟨kk, rfl⟩ := Int.eq_ofNat_of_zero_le hg.1.2.1
    have hp : ∃ pr : List UInt8, fineT n W kk = true → prot N n W kk = B pr ∧ pr.length ≤ 4000000000 := by
      cases hf : fineT (n : Int) (W : Int) (kk : Int) with
      | false => exact ⟨[], fun h => by cases h⟩
      | true =>
        obtain ⟨l, h1, h2⟩ := prot_B N n W kk hf
        exact ⟨l, fun _ => ⟨h1, h2⟩⟩
    obtain ⟨pr, hp⟩ := hp
    dsimp only
    rw [spec_SplitLine_n N n W kk hN (by omega) (by omega) hW pr hp, impl_SplitLine_n N n W kk hN (by omega) (by omega) hW pr hp, beq_self_eq_true]
    rfl
end Go.Proofs.YtfdggelojmofmaaDoor
