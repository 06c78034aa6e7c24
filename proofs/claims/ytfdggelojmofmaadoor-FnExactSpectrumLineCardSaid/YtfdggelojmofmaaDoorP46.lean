/- The line of a spectrum. -/
import Derived.Test.YtfdggelojmofmaaDoorP45
namespace Go.Proofs.YtfdggelojmofmaaDoor
open Go.Rv
variable {β : Type}
theorem sps_in (w n m : Nat) (hn : n ≤ 5) : ∀ x ∈ sps w n m, in64 x := by
  intro x hx
  simp only [sps, List.mem_map] at hx
  obtain ⟨u, _, rfl⟩ := hx
  have := sumTo_le (tm w u) (tm_range w u) (2 ^ n)
  have := size_le hn
  unfold in64
  omega
theorem wr_in (l : List Int) (i x : Int) (hx : in64 x) (hl : ∀ y ∈ l, in64 y) : ∀ y ∈ wr l i x, in64 y := by
  intro y hy
  unfold wr at hy
  rcases List.mem_or_eq_of_mem_set hy with h | rfl
  · exact hl y h
  · exact hx
theorem en_in (l z : List Int) (hz : ∀ y ∈ z, in64 y) : ∀ i, ∀ y ∈ en l z i, in64 y
  | 0 => hz
  | i + 1 => wr_in _ _ _ (w64_in _) (en_in l z hz i)
theorem zeros_in (n : Nat) : ∀ y ∈ List.replicate n (0 : Int), in64 y := by
  intro y hy
  have := (List.mem_replicate.1 hy).2
  subst this
  unfold in64; omega
theorem nonl_in (w n : Nat) : in64 (nonl w n) := w64_in _
theorem ci_in (l : List Int) (n : Int) (hn : in64 n) : ∀ i, in64 (ci l n i)
  | 0 => hn
  | i + 1 => by
    have h1 := ci_in l n hn i
    have h2 := w64_in ((ones i : Int) - 1)
    simp only [ci]
    generalize w64 ((ones i : Int) - 1) = z at h2 ⊢
    generalize ci l n i = y at h1 ⊢
    cases (decide (0 < i) && (rd 0 l (i : Int) != 0)) with
    | false => exact h1
    | true =>
      simp only [cond_true, mnI]
      split
      · exact h2
      · exact h1
theorem rj2_in (w x : Nat) (s : Int) (hs : in64 s) : ∀ y, in64 (rj2 w x s y)
  | 0 => hs
  | _ + 1 => w64_in _
theorem rj1_in (w m : Nat) : ∀ x, in64 (rj1 w m x)
  | 0 => by unfold rj1 in64; omega
  | x + 1 => rj2_in w x _ (rj1_in w m x) m

theorem joinB_B (l : List (List UInt8)) (s : List UInt8) : joinB (l.map B) (B s) = B (Lib.join l s) := by
  unfold joinB B
  rw [List.map_map]
  have : ((fun x : ByteArray => x.data.toList) ∘ fun l : List UInt8 => (⟨l.toArray⟩ : ByteArray)) = id := by
    funext l
    simp
  rw [this]
  simp

/-- The line. -/
def specLine (S E nl im re : List UInt8) : List UInt8 :=
  Lib.join [[115, 112, 101, 99, 116, 114, 117, 109], S, [108, 101, 118, 101, 108, 115], E, [110, 111, 110, 108, 105, 110, 101, 97, 114, 105, 116, 121], nl, [105, 109, 109, 117, 110, 105, 116, 121], im, [114, 101, 106, 101, 99, 116, 115], re] [32]

theorem spec_SpectrumLine_n (N n w : Nat) (hN : 1048576 < N) (hn : n ≤ 5) (hw : w < 2 ^ 2 ^ n) (k : ByteArray → Option β) : spec_SpectrumLine N (n : Int) (w : Int) k =
    k (B (specLine (textL (sps w n (2 ^ n))) (textL (en (sps w n (2 ^ n)) (List.replicate (n + 1) 0) (2 ^ n))) (Lib.itoa (nonl w n)) (Lib.itoa (ci (sps w n (2 ^ n)) n (2 ^ n))) (Lib.itoa (rj1 w (2 ^ n) (2 ^ n))))) := by
  have hs := size_le hn
  have i1 := sps_in w n (2 ^ n) hn
  have i2 := en_in (sps w n (2 ^ n)) (List.replicate (n + 1) 0) (zeros_in _) (2 ^ n)
  have i3 := nonl_in w n
  have i4 := ci_in (sps w n (2 ^ n)) n (by unfold in64; omega) (2 ^ n)
  have i5 := rj1_in w (2 ^ n) (2 ^ n)
  have l1 := textL_len _ i1
  have l2 := textL_len _ i2
  have l3 := (itoa_len _ i3).1
  have l4 := (itoa_len _ i4).1
  have l5 := (itoa_len _ i5).1
  rw [sps_len] at l1
  rw [en_len, List.length_replicate] at l2
  unfold spec_SpectrumLine
  rw [spec_IsTable_eq, isTn hn hw]
  simp only [Bool.not_true, cond_false]
  rw [spec_SpectrumOf_n N n w (by omega) hn hw, spec_l34Numbers_eq N hN _ (by rw [sps_len]; omega) i1]
  simp only [B_strOf, B_app, B_size]
  rw [gd_true (decide_eq_true (by simp; omega)), gd_true (decide_eq_true (by simp; omega)), spec_EnergyByLevel_n N n w (by omega) hn hw, spec_l34Numbers_eq N hN _ (by rw [en_len]; simp; omega) i2]
  simp only [B_app, B_size]
  rw [gd_true (decide_eq_true (by simp; omega)), gd_true (decide_eq_true (by simp; omega)), spec_Nonlinearity_n N n w (by omega) hn hw, spec_FormatInt_eq N (by omega) _ i3]
  simp only [B_app, B_size]
  rw [gd_true (decide_eq_true (by simp; omega)), gd_true (decide_eq_true (by simp; omega)), spec_CorrelationImmunity_n N n w (by omega) hn hw, spec_FormatInt_eq N (by omega) _ i4]
  simp only [B_app, B_size]
  rw [gd_true (decide_eq_true (by simp; omega)), gd_true (decide_eq_true (by simp; omega)), spec_TestRejects_n N n w (by omega) hn hw, spec_FormatInt_eq N (by omega) _ i5]
  simp only [B_app, B_size]
  rw [gd_true (decide_eq_true (by simp; omega))]
  congr 2
  simp [specLine, Lib.join, List.intercalate]

theorem impl_SpectrumLine_n (N n w : Nat) (hN : 1048576 < N) (hn : n ≤ 5) (hw : w < 2 ^ 2 ^ n) (k : ByteArray → Option β) : impl_SpectrumLine N (n : Int) (w : Int) k =
    k (B (specLine (textL (sps w n (2 ^ n))) (textL (en (sps w n (2 ^ n)) (List.replicate (n + 1) 0) (2 ^ n))) (Lib.itoa (nonl w n)) (Lib.itoa (ci (sps w n (2 ^ n)) n (2 ^ n))) (Lib.itoa (rj1 w (2 ^ n) (2 ^ n))))) := by
  have hs := size_le hn
  have hw' := w_small hn hw
  have i1 := sps_in w n (2 ^ n) hn
  have i2 := en_in (sps w n (2 ^ n)) (List.replicate (n + 1) 0) (zeros_in _) (2 ^ n)
  have i3 := nonl_in w n
  have i4 := ci_in (sps w n (2 ^ n)) n (by unfold in64; omega) (2 ^ n)
  have i5 := rj1_in w (2 ^ n) (2 ^ n)
  have l1 := textL_len _ i1
  have l2 := textL_len _ i2
  have l3 := (itoa_len _ i3).1
  have l4 := (itoa_len _ i4).1
  have l5 := (itoa_len _ i5).1
  rw [sps_len] at l1
  rw [en_len, List.length_replicate] at l2
  unfold impl_SpectrumLine
  rw [impl_IsTable_eq N _ _ (by omega), isTn hn hw]
  simp only [Bool.not_true, cond_false]
  rw [impl_spectrum_n N n w (by omega) hn hw, impl_listText_eq N hN _ (by rw [sps_len]; omega) i1, impl_EnergyByLevel_n N n w (by omega) hn hw, impl_listText_eq N hN _ (by rw [en_len]; simp; omega) i2, impl_Nonlinearity_n N n w (by omega) hn hw, impl_FormatInt_eq N _ i3]
  unfold impl_line_put_g0
  rw [gd_true (decide_eq_true (by simp))]
  dsimp only
  rw [impl_CorrelationImmunity_n N n w (by omega) hn hw, impl_FormatInt_eq N _ i4, impl_TestRejects_n N n w (by omega) hn hw, impl_FormatInt_eq N _ i5, gd_true (decide_eq_true (by simp))]
  unfold impl_line_text_g0 strings_Join
  simp only [B_strOf]
  have e := joinB_B [[115, 112, 101, 99, 116, 114, 117, 109], textL (sps w n (2 ^ n)), [108, 101, 118, 101, 108, 115], textL (en (sps w n (2 ^ n)) (List.replicate (n + 1) 0) (2 ^ n)), [110, 111, 110, 108, 105, 110, 101, 97, 114, 105, 116, 121], Lib.itoa (nonl w n), [105, 109, 109, 117, 110, 105, 116, 121], Lib.itoa (ci (sps w n (2 ^ n)) n (2 ^ n)), [114, 101, 106, 101, 99, 116, 115], Lib.itoa (rj1 w (2 ^ n) (2 ^ n))] [32]
  have hlen : (specLine (textL (sps w n (2 ^ n))) (textL (en (sps w n (2 ^ n)) (List.replicate (n + 1) 0) (2 ^ n))) (Lib.itoa (nonl w n)) (Lib.itoa (ci (sps w n (2 ^ n)) n (2 ^ n))) (Lib.itoa (rj1 w (2 ^ n) (2 ^ n)))).length ≤ 100000 := by
    simp [specLine, Lib.join, List.intercalate]
    omega
  rw [gd_true (decide_eq_true (by simp))]
  refine Eq.trans ?_ (show gd (decide ((B (specLine (textL (sps w n (2 ^ n))) (textL (en (sps w n (2 ^ n)) (List.replicate (n + 1) 0) (2 ^ n))) (Lib.itoa (nonl w n)) (Lib.itoa (ci (sps w n (2 ^ n)) n (2 ^ n))) (Lib.itoa (rj1 w (2 ^ n) (2 ^ n))))).size ≤ 140737488355328)) (k (B _)) = _ from gd_true (decide_eq_true (by rw [B_size]; omega)))
  unfold specLine
  rw [← e]
  rfl

theorem law_SpectrumLine (N : Nat) (hN : 1048576 < N) (a0 a1 : Int) (h0 : -9223372036854775808 ≤ a0 ∧ a0 ≤ 9223372036854775807) (h1 : -9223372036854775808 ≤ a1 ∧ a1 ≤ 9223372036854775807) (k : Bool → Option β) : laws_FnExactSpectrumLine N a0 a1 k = k true := by
  unfold laws_FnExactSpectrumLine laws_toTable
  cases hT : isT a0 a1 with
  | false =>
    unfold spec_SpectrumLine impl_SpectrumLine
    simp only [spec_IsTable_eq, impl_IsTable_eq N a0 a1 (by omega), hT, Bool.not_false, cond_true]
    simp
  | true =>
    obtain ⟨n, w, rfl, rfl, hn, hw, _⟩ := isT_nat hT
    dsimp only
    rw [spec_SpectrumLine_n N n w hN hn hw, impl_SpectrumLine_n N n w hN hn hw]
    simp
end Go.Proofs.YtfdggelojmofmaaDoor
