/- Plain laws of the texts: terms written and read. -/
import Derived.Test.YtfdggelojmofmaaDoorP45
import Derived.Lib.IndexBytes
namespace Go.Proofs.YtfdggelojmofmaaDoor
open Go.Rv
set_option linter.unusedVariables false
variable {β : Type}
/-! ### Cut at one byte -/
def spl (c : UInt8) : List UInt8 → List UInt8 → List (List UInt8)
  | acc, [] => [acc]
  | acc, b :: l => if b = c then acc :: spl c [] l else spl c (acc ++ [b]) l
theorem index_hit (c : UInt8) (l : List UInt8) : ∀ acc : List UInt8, c ∉ acc → Lib.indexByte (acc ++ c :: l) c = (acc.length : Int)
  | [], _ => by simp [Lib.indexByte]
  | b :: acc, h => by
    have h1 : ¬ (b == c) = true := fun e => h (by rw [← eq_of_beq e]; exact List.mem_cons_self ..)
    have ih := index_hit c l acc fun h' => h (List.mem_cons_of_mem _ h')
    rw [List.cons_append, Lib.indexByte, if_neg h1, ih, if_neg (by simp), List.length_cons]
    omega
theorem splitK_spl (c : UInt8) : ∀ (l acc : List UInt8), c ∉ acc → Lib.splitK [c] 0 (l.count c) (acc ++ l) = spl c acc l
  | [], acc, h => by rw [List.count_nil, List.append_nil]; rfl
  | b :: l, acc, h => by
    by_cases e : b = c
    · subst e
      have hd : (acc ++ b :: l).drop (acc.length + 1) = l := by
        rw [show acc ++ b :: l = (acc ++ [b]) ++ l by simp]
        exact List.drop_left' (by simp)
      have := splitK_spl b l [] (by simp)
      rw [List.nil_append] at this
      rw [List.count_cons_self, spl, if_pos rfl, Lib.splitK, Lib.index_one, index_hit b l acc h, if_neg (by simp)]
      simp only [Int.toNat_natCast, Nat.add_zero, List.length_cons, List.length_nil, Nat.zero_add]
      rw [hd, List.take_left, this]
    · rw [List.count_cons_of_ne (by simpa using e), spl, if_neg e, ← splitK_spl c l (acc ++ [b]) (by
        intro h'
        rcases List.mem_append.1 h' with h' | h'
        · exact h h'
        · simp at h'; exact e h'.symm)]
      simp
theorem splitB_spl (s : ByteArray) (c : UInt8) : Lib.splitB ⟨#[c]⟩ 0 (Lib.countB s ⟨#[c]⟩) s = (spl c [] s.data.toList).map B := by
  have h := Lib.splitB_data ⟨#[c]⟩ 0 (Lib.countB s ⟨#[c]⟩) s
  have e : Lib.countB s ⟨#[c]⟩ = s.data.toList.count c := Lib.count_one c _
  have k := splitK_spl c s.data.toList [] (by simp)
  rw [List.nil_append] at k
  rw [e] at h ⊢
  have h : (Lib.splitB ⟨#[c]⟩ 0 (s.data.toList.count c) s).map (·.data.toList) = spl c [] s.data.toList := h.trans k
  rw [← h, List.map_map]
  have : (B ∘ fun x : ByteArray => x.data.toList) = id := by
    funext x
    exact B_data x
  rw [this, List.map_id]

/-! ### Terms -/
def okT (n m v : Nat) : Bool := decide (m < 2 ^ n) && (v &&& m == v)
theorem andNot_sm : ∀ v : Nat, v < 32 → ∀ m : Nat, m < 32 → (bits .andNot .i64 (v : Int) (m : Int) == 0) = (v &&& m == v) := by decide +kernel
theorem and_sm : ∀ v : Nat, v < 32 → ∀ m : Nat, m < 32 → (bits .and .i64 (v : Int) (m : Int) == (v : Int)) = (v &&& m == v) := by decide +kernel
theorem sz5 : ∀ n : Nat, n ≤ 5 → 1 ≤ 2 ^ n ∧ 2 ^ n ≤ 32 := by decide +kernel
theorem spec_IsTerm_n (N n m v : Nat) (hn : n ≤ 5) (hm : m < 32) (hv : v < 32) (K : Bool → Option β) : spec_IsTerm N (n : Int) (m : Int) (v : Int) K = K (okT n m v) := by
  have hs := sz5 n hn
  unfold spec_IsTerm okT
  rw [spec_l1In_eq, decide_eq_true (by omega : (0 : Int) ≤ (n : Int)), decide_eq_true (by omega : (n : Int) ≤ 5), Bool.and_self, cond_true, gd_true rfl, shl_one n (by omega), w64_id (by omega) (by omega), spec_l1In_eq, decide_eq_true (by omega : (0 : Int) ≤ (m : Int)), Bool.true_and]
  by_cases h : m < 2 ^ n
  · rw [decide_eq_true (by omega), decide_eq_true h, cond_true, spec_l1In_eq, decide_eq_true (by omega : (0 : Int) ≤ (v : Int)), Bool.true_and, and_sm v hv m hm, Bool.true_and]
    cases hvm : (v &&& m == v) with
    | true =>
      have : v ≤ m := by rw [← eq_of_beq hvm]; exact Nat.and_le_right
      rw [decide_eq_true (by omega)]; rfl
    | false => cases decide ((v : Int) ≤ (m : Int)) <;> rfl
  · rw [decide_eq_false (by omega), decide_eq_false h]; rfl
theorem impl_IsTerm_n (N n m v : Nat) (hn : n ≤ 5) (hm : m < 32) (hv : v < 32) (K : Bool → Option β) : impl_IsTerm N (n : Int) (m : Int) (v : Int) K = K (okT n m v) := by
  have hs := sz5 n hn
  unfold impl_IsTerm impl_isBits impl_isInput okT
  rw [decide_eq_true (by omega : (n : Int) ≥ 0), decide_eq_true (by omega : (n : Int) ≤ 5), cond_true]
  dsimp only
  rw [cond_true, decide_eq_true (by omega : (m : Int) ≥ 0), cond_true, gd_true rfl, shl_one n (by omega)]
  rw [decide_eq_true (by omega : (v : Int) ≥ 0), cond_true, andNot_sm v hv m hm]
  by_cases h : m < 2 ^ n
  · rw [decide_eq_true (by omega), decide_eq_true h, cond_true, Bool.true_and]
  · rw [decide_eq_false (by omega), decide_eq_false h]; rfl

/-- A term written, its first variables. -/
def ft (m v : Nat) : Nat → List UInt8
  | 0 => []
  | i + 1 => ft m v i ++ cond (m.testBit i) (cond (v.testBit i) [UInt8.ofNat (97 + i)] [33, UInt8.ofNat (97 + i)]) []
theorem ft_len (m v : Nat) : ∀ i, (ft m v i).length ≤ 2 * i
  | 0 => Nat.le_refl _
  | i + 1 => by
    have := ft_len m v i
    simp only [ft, List.length_append]
    cases m.testBit i <;> cases v.testBit i <;> simp <;> omega
def ftb (n m v : Nat) : List UInt8 := cond (okT n m v) (cond (ft m v n == []) [49] (ft m v n)) []
theorem letter_ext : ∀ i, i < 5 → (strOf [97, 98, 99, 100, 101]).extract i (i + 1) = B [UInt8.ofNat (97 + i)] := by decide +kernel
theorem letters_size : (((strOf [97, 98, 99, 100, 101]).size : Nat) : Int) = 5 := by decide +kernel
theorem bit0 (w y : Nat) (hw : w < 32) : (bits .and .i64 (shrI .i64 (w : Int) (y : Int)) 1 == 0) = !w.testBit y := by
  rw [bit_at w y (by omega)]
  cases w.testBit y <;> rfl
theorem spec_FormatTerm_n (N : Nat) (hN : 1048576 < N) (n m v : Nat) (hn : n ≤ 5) (hm : m < 32) (hv : v < 32) (K : ByteArray → Option β) : spec_FormatTerm N (n : Int) (m : Int) (v : Int) K = K (B (ftb n m v)) := by
  unfold spec_FormatTerm ftb
  have he : (B ([] : List UInt8)).toList = [] := B_toList _
  cases hok : okT n m v with
  | false =>
    obtain ⟨G, rfl⟩ : ∃ G, N = G + 1 := ⟨N - 1, by omega⟩
    simp only [spec_FormatTerm_l0, spec_FormatTerm_l0b]
    rw [spec_IsTerm_n _ n m v hn hm hv, hok, cond_false, beq_self_eq_true, cond_true, spec_IsTerm_n _ n m v hn hm hv, hok]
    rfl
  | true =>
    have main := loop_st (fun F i => spec_FormatTerm_l0 N F (n : Int) (B (ft m v i)) (i : Int) (m : Int) (v : Int) fun e0 e1 e2 e3 => cond (e1.toList == ByteArray.empty.toList) (spec_IsTerm N e0 e2 e3 fun r6 => cond r6 (K (strOf [49])) (K e1)) (K e1)) n
      (K (B (cond (ft m v n == []) [49] (ft m v n)))) (fun F i hi => ?_) (fun F => ?_) N 0 (by omega) (by omega)
    · exact main
    · have hl := ft_len m v i
      simp only [spec_FormatTerm_l0, spec_FormatTerm_l0b]
      rw [spec_IsTerm_n N n m v hn hm hv, hok, cond_true, decide_eq_true (by omega : (i : Int) < (n : Int)), cond_true, gd_true (decide_eq_true (by omega)), bit0 m i hm, bit0 v i hv, w64_succ i (by omega), letters_size, Int.toNat_natCast, Int.toNat_natCast, letter_ext i (by omega)]
      simp only [B_strOf, B_app, B_size, List.map_cons, List.map_nil, ft]
      cases m.testBit i with
      | false => rw [Bool.not_false, cond_true, cond_false, List.append_nil]
      | true =>
        rw [Bool.not_true, cond_false, gd_true (decide_eq_true (by omega)), cond_true]
        cases v.testBit i with
        | false =>
          rw [Bool.not_false, cond_true, gd_true (decide_eq_true (by simp; omega)), gd_true (decide_eq_true (by omega)), gd_true (decide_eq_true (by omega)), gd_true (decide_eq_true (by omega)), gd_true (decide_eq_true (by omega)), gd_true (decide_eq_true (by simp; omega)), cond_false]
          simp only [List.append_assoc]
          rfl
        | true =>
          rw [Bool.not_true, cond_false, gd_true (decide_eq_true (by omega)), gd_true (decide_eq_true (by omega)), gd_true (decide_eq_true (by omega)), gd_true (decide_eq_true (by omega)), gd_true (decide_eq_true (by simp; omega)), cond_true]
    · simp only [spec_FormatTerm_l0, spec_FormatTerm_l0b]
      rw [spec_IsTerm_n N n m v hn hm hv, hok, cond_true, decide_eq_false (by omega), cond_false, B_toList, show ByteArray.empty.toList = [] from he, spec_IsTerm_n N n m v hn hm hv, hok, cond_true]
      cases ft m v n == [] <;> rfl
theorem impl_FormatTerm_n (N : Nat) (hN : 1048576 < N) (n m v : Nat) (hn : n ≤ 5) (hm : m < 32) (hv : v < 32) (K : ByteArray → Option β) : impl_FormatTerm N (n : Int) (m : Int) (v : Int) K = K (B (ftb n m v)) := by
  unfold impl_FormatTerm ftb
  rw [impl_IsTerm_n N n m v hn hm hv]
  cases hok : okT n m v with
  | false => rfl
  | true =>
    rw [Bool.not_true, cond_false]
    have main := loop_st (fun F i => impl_FormatTerm_l0 N F (n : Int) (i : Int) (m : Int) (v : Int) ((ft m v i).map fun b => (b.toNat : Int)) fun e => cond ((e.length : Int) == 0) (K (strOf [49])) (K (strOf e))) n
      (K (B (cond (ft m v n == []) [49] (ft m v n)))) (fun F i hi => ?_) (fun F => ?_) N 0 (by omega) (by omega)
    · exact main
    · have hl := ft_len m v i
      have hw : w8 (97 + w8 (i : Int)) = ((97 + i : Nat) : Int) := by
        rw [w8_small i (by omega), show (97 : Int) + (i : Int) = ((97 + i : Nat) : Int) by omega, w8_small _ (by omega)]
      have hu : ((UInt8.ofNat (97 + i)).toNat : Int) = ((97 + i : Nat) : Int) := by
        rw [UInt8.toNat_ofNat']
        omega
      simp only [impl_FormatTerm_l0, impl_FormatTerm_l0b]
      rw [decide_eq_true (by omega : (i : Int) < (n : Int)), cond_true, gd_true (decide_eq_true (by omega)), bit0 m i hm, bit0 v i hv, w64_succ i (by omega), hw]
      simp only [ft, List.map_append]
      cases m.testBit i with
      | false => rw [Bool.not_false, cond_true, cond_false, List.map_nil, List.append_nil]
      | true =>
        rw [Bool.not_true, cond_false, gd_true (decide_eq_true (by omega)), cond_true]
        cases v.testBit i with
        | false =>
          rw [Bool.not_false, cond_true, gd_true (decide_eq_true (by simp; omega)), gd_true (decide_eq_true (by simp; omega)), cond_false]
          simp only [List.map_cons, List.map_nil, hu, List.nil_append, List.append_assoc]
          rfl
        | true =>
          rw [Bool.not_true, cond_false, gd_true (decide_eq_true (by simp; omega)), cond_true]
          simp only [List.map_cons, List.map_nil, hu, List.nil_append]
    · simp only [impl_FormatTerm_l0, impl_FormatTerm_l0b]
      rw [decide_eq_false (by omega), cond_false, B_strOf (List.map _ _), List.map_map]
      have : ((fun x : Int => UInt8.ofNat x.toNat) ∘ fun b : UInt8 => (b.toNat : Int)) = id := by
        funext b
        simp
      rw [this, List.map_id]
      cases hft : ft m v n with
      | nil => rfl
      | cons b l => rfl
end Go.Proofs.YtfdggelojmofmaaDoor
