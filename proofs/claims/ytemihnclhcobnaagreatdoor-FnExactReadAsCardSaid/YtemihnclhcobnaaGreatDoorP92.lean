/- Plain laws of the texts. -/
import Derived.Test.YtemihnclhcobnaaGreatDoorP91
import Derived.Lib.IndexBytes
import Derived.Lib.Join
namespace Go.Proofs.YtemihnclhcobnaaGreatDoor
open Go.Rv
set_option linter.unusedVariables false
variable {β : Type}
/-! ### Cut at one byte -/
def spl (c : UInt8) : List UInt8 → List UInt8 → List (List UInt8)
  | acc, [] => [acc]
  | acc, b :: l => if b = c then acc :: spl c [] l else spl c (acc ++ [b]) l
theorem index_hit (c : UInt8) (l : List UInt8) : ∀ acc : List UInt8, c ∉ acc → Lib.indexByte (acc ++ c :: l) c = (acc.length : Int)
  | [], _ => by simp [Lib.indexByte]
  | b :: acc, h => by
    have h1 : ¬ (b == c) = true := fun e => h (by rw [← eq_of_beq e]; exact List.mem_cons_self ..)
    have ih := index_hit c l acc fun h' => h (List.mem_cons_of_mem _ h')
    rw [List.cons_append, Lib.indexByte, if_neg h1, ih, if_neg (by simp), List.length_cons]
    omega
theorem splitK_spl (c : UInt8) : ∀ (l acc : List UInt8), c ∉ acc → Lib.splitK [c] 0 (l.count c) (acc ++ l) = spl c acc l
  | [], acc, h => by rw [List.count_nil, List.append_nil]; rfl
  | b :: l, acc, h => by
    by_cases e : b = c
    · subst e
      have hd : (acc ++ b :: l).drop (acc.length + 1) = l := by
        rw [show acc ++ b :: l = (acc ++ [b]) ++ l by simp]
        exact List.drop_left' (by simp)
      have := splitK_spl b l [] (by simp)
      rw [List.nil_append] at this
      rw [List.count_cons_self, spl, if_pos rfl, Lib.splitK, Lib.index_one, index_hit b l acc h, if_neg (by simp)]
      simp only [Int.toNat_natCast, Nat.add_zero, List.length_cons, List.length_nil, Nat.zero_add]
      rw [hd, List.take_left, this]
    · rw [List.count_cons_of_ne (by simpa using e), spl, if_neg e, ← splitK_spl c l (acc ++ [b]) (by
        intro h'
        rcases List.mem_append.1 h' with h' | h'
        · exact h h'
        · simp at h'; exact e h'.symm)]
      simp
theorem splitB_spl (s : ByteArray) (c : UInt8) : Lib.splitB ⟨#[c]⟩ 0 (Lib.countB s ⟨#[c]⟩) s = (spl c [] s.data.toList).map B := by
  have h := Lib.splitB_data ⟨#[c]⟩ 0 (Lib.countB s ⟨#[c]⟩) s
  have e : Lib.countB s ⟨#[c]⟩ = s.data.toList.count c := Lib.count_one c _
  have k := splitK_spl c s.data.toList [] (by simp)
  rw [List.nil_append] at k
  rw [e] at h ⊢
  have h : (Lib.splitB ⟨#[c]⟩ 0 (s.data.toList.count c) s).map (·.data.toList) = spl c [] s.data.toList := h.trans k
  rw [← h, List.map_map]
  have : (B ∘ fun x : ByteArray => x.data.toList) = id := by
    funext x
    exact B_data x
  rw [this, List.map_id]

/-! ### Terms -/
def okT (n m v : Nat) : Bool := decide (m < 2 ^ n) && (v &&& m == v)
theorem andNot_sm : ∀ v : Nat, v < 32 → ∀ m : Nat, m < 32 → (bits .andNot .i64 (v : Int) (m : Int) == 0) = (v &&& m == v) := by decide +kernel
theorem and_sm : ∀ v : Nat, v < 32 → ∀ m : Nat, m < 32 → (bits .and .i64 (v : Int) (m : Int) == (v : Int)) = (v &&& m == v) := by decide +kernel
theorem sz5 : ∀ n : Nat, n ≤ 5 → 1 ≤ 2 ^ n ∧ 2 ^ n ≤ 32 := by decide +kernel
theorem spec_IsTerm_n (N n m v : Nat) (hn : n ≤ 5) (hm : m < 32) (hv : v < 32) (K : Bool → Option β) : zj6 N (n : Int) (m : Int) (v : Int) K = K (okT n m v) := by
  have hs := sz5 n hn
  unfold zj6 okT
  rw [spec_l1In_eq, decide_eq_true (by omega : (0 : Int) ≤ (n : Int)), decide_eq_true (by omega : (n : Int) ≤ 5), Bool.and_self, cond_true, gd_true rfl, shl_one n (by omega), w64_id (by omega) (by omega), spec_l1In_eq, decide_eq_true (by omega : (0 : Int) ≤ (m : Int)), Bool.true_and]
  by_cases h : m < 2 ^ n
  · rw [decide_eq_true (by omega), decide_eq_true h, cond_true, spec_l1In_eq, decide_eq_true (by omega : (0 : Int) ≤ (v : Int)), Bool.true_and, and_sm v hv m hm, Bool.true_and]
    cases hvm : (v &&& m == v) with
    | true =>
      have : v ≤ m := by rw [← eq_of_beq hvm]; exact Nat.and_le_right
      rw [decide_eq_true (by omega)]; rfl
    | false => cases decide ((v : Int) ≤ (m : Int)) <;> rfl
  · rw [decide_eq_false (by omega), decide_eq_false h]; rfl
theorem impl_IsTerm_n (N n m v : Nat) (hn : n ≤ 5) (hm : m < 32) (hv : v < 32) (K : Bool → Option β) : zj73 N (n : Int) (m : Int) (v : Int) K = K (okT n m v) := by
  have hs := sz5 n hn
  unfold zj73 zj71 zj72 okT
  rw [decide_eq_true (by omega : (n : Int) ≥ 0), decide_eq_true (by omega : (n : Int) ≤ 5), cond_true]
  dsimp only
  rw [cond_true, decide_eq_true (by omega : (m : Int) ≥ 0), cond_true, gd_true rfl, shl_one n (by omega)]
  rw [decide_eq_true (by omega : (v : Int) ≥ 0), cond_true, andNot_sm v hv m hm]
  by_cases h : m < 2 ^ n
  · rw [decide_eq_true (by omega), decide_eq_true h, cond_true, Bool.true_and]
  · rw [decide_eq_false (by omega), decide_eq_false h]; rfl

/-- A term written, its first variables. -/
def ft (m v : Nat) : Nat → List UInt8
  | 0 => []
  | i + 1 => ft m v i ++ cond (m.testBit i) (cond (v.testBit i) [UInt8.ofNat (97 + i)] [33, UInt8.ofNat (97 + i)]) []
theorem ft_len (m v : Nat) : ∀ i, (ft m v i).length ≤ 2 * i
  | 0 => Nat.le_refl _
  | i + 1 => by
    have := ft_len m v i
    simp only [ft, List.length_append]
    cases m.testBit i <;> cases v.testBit i <;> simp <;> omega
def ftb (n m v : Nat) : List UInt8 := cond (okT n m v) (cond (ft m v n == []) [49] (ft m v n)) []
theorem letter_ext : ∀ i, i < 5 → (strOf [97, 98, 99, 100, 101]).extract i (i + 1) = B [UInt8.ofNat (97 + i)] := by decide +kernel
theorem letters_size : (((strOf [97, 98, 99, 100, 101]).size : Nat) : Int) = 5 := by decide +kernel
theorem bit0 (w y : Nat) (hw : w < 32) : (bits .and .i64 (shrI .i64 (w : Int) (y : Int)) 1 == 0) = !w.testBit y := by
  rw [bit_at w y (by omega)]
  cases w.testBit y <;> rfl
theorem spec_FormatTerm_n (N : Nat) (hN : 1048576 < N) (n m v : Nat) (hn : n ≤ 5) (hm : m < 32) (hv : v < 32) (K : ByteArray → Option β) : zj9 N (n : Int) (m : Int) (v : Int) K = K (B (ftb n m v)) := by
  unfold zj9 ftb
  have he : (B ([] : List UInt8)).toList = [] := B_toList _
  cases hok : okT n m v with
  | false =>
    obtain ⟨G, rfl⟩ : ∃ G, N = G + 1 := ⟨N - 1, by omega⟩
    simp only [zj8, zj7]
    rw [spec_IsTerm_n _ n m v hn hm hv, hok, cond_false, beq_self_eq_true, cond_true, spec_IsTerm_n _ n m v hn hm hv, hok]
    rfl
  | true =>
    have main := loop_st (fun F i => zj8 N F (n : Int) (B (ft m v i)) (i : Int) (m : Int) (v : Int) fun e0 e1 e2 e3 => cond (e1.toList == ByteArray.empty.toList) (zj6 N e0 e2 e3 fun r6 => cond r6 (K (strOf [49])) (K e1)) (K e1)) n
      (K (B (cond (ft m v n == []) [49] (ft m v n)))) (fun F i hi => ?_) (fun F => ?_) N 0 (by omega) (by omega)
    · exact main
    · have hl := ft_len m v i
      simp only [zj8, zj7]
      rw [spec_IsTerm_n N n m v hn hm hv, hok, cond_true, decide_eq_true (by omega : (i : Int) < (n : Int)), cond_true, gd_true (decide_eq_true (by omega)), bit0 m i hm, bit0 v i hv, w64_succ i (by omega), letters_size, Int.toNat_natCast, Int.toNat_natCast, letter_ext i (by omega)]
      simp only [B_strOf, B_app, B_size, List.map_cons, List.map_nil, ft]
      cases m.testBit i with
      | false => rw [Bool.not_false, cond_true, cond_false, List.append_nil]
      | true =>
        rw [Bool.not_true, cond_false, gd_true (decide_eq_true (by omega)), cond_true]
        cases v.testBit i with
        | false =>
          rw [Bool.not_false, cond_true, gd_true (decide_eq_true (by simp; omega)), gd_true (decide_eq_true (by omega)), gd_true (decide_eq_true (by omega)), gd_true (decide_eq_true (by omega)), gd_true (decide_eq_true (by omega)), gd_true (decide_eq_true (by simp; omega)), cond_false]
          simp only [List.append_assoc]
          rfl
        | true =>
          rw [Bool.not_true, cond_false, gd_true (decide_eq_true (by omega)), gd_true (decide_eq_true (by omega)), gd_true (decide_eq_true (by omega)), gd_true (decide_eq_true (by omega)), gd_true (decide_eq_true (by simp; omega)), cond_true]
    · simp only [zj8, zj7]
      rw [spec_IsTerm_n N n m v hn hm hv, hok, cond_true, decide_eq_false (by omega), cond_false, B_toList, show ByteArray.empty.toList = [] from he, spec_IsTerm_n N n m v hn hm hv, hok, cond_true]
      cases ft m v n == [] <;> rfl
theorem impl_FormatTerm_n (N : Nat) (hN : 1048576 < N) (n m v : Nat) (hn : n ≤ 5) (hm : m < 32) (hv : v < 32) (K : ByteArray → Option β) : zj103 N (n : Int) (m : Int) (v : Int) K = K (B (ftb n m v)) := by
  unfold zj103 ftb
  rw [impl_IsTerm_n N n m v hn hm hv]
  cases hok : okT n m v with
  | false => rfl
  | true =>
    rw [Bool.not_true, cond_false]
    have main := loop_st (fun F i => zj102 N F (n : Int) (i : Int) (m : Int) (v : Int) ((ft m v i).map fun b => (b.toNat : Int)) fun e => cond ((e.length : Int) == 0) (K (strOf [49])) (K (strOf e))) n
      (K (B (cond (ft m v n == []) [49] (ft m v n)))) (fun F i hi => ?_) (fun F => ?_) N 0 (by omega) (by omega)
    · exact main
    · have hl := ft_len m v i
      have hw : w8 (97 + w8 (i : Int)) = ((97 + i : Nat) : Int) := by
        rw [w8_small i (by omega), show (97 : Int) + (i : Int) = ((97 + i : Nat) : Int) by omega, w8_small _ (by omega)]
      have hu : ((UInt8.ofNat (97 + i)).toNat : Int) = ((97 + i : Nat) : Int) := by
        rw [UInt8.toNat_ofNat']
        omega
      simp only [zj102, zj101]
      rw [decide_eq_true (by omega : (i : Int) < (n : Int)), cond_true, gd_true (decide_eq_true (by omega)), bit0 m i hm, bit0 v i hv, w64_succ i (by omega), hw]
      simp only [ft, List.map_append]
      cases m.testBit i with
      | false => rw [Bool.not_false, cond_true, cond_false, List.map_nil, List.append_nil]
      | true =>
        rw [Bool.not_true, cond_false, gd_true (decide_eq_true (by omega)), cond_true]
        cases v.testBit i with
        | false =>
          rw [Bool.not_false, cond_true, gd_true (decide_eq_true (by simp; omega)), gd_true (decide_eq_true (by simp; omega)), cond_false]
          simp only [List.map_cons, List.map_nil, hu, List.nil_append, List.append_assoc]
          rfl
        | true =>
          rw [Bool.not_true, cond_false, gd_true (decide_eq_true (by simp; omega)), cond_true]
          simp only [List.map_cons, List.map_nil, hu, List.nil_append]
    · simp only [zj102, zj101]
      rw [decide_eq_false (by omega), cond_false, B_strOf (List.map _ _), List.map_map]
      have : ((fun x : Int => UInt8.ofNat x.toNat) ∘ fun b : UInt8 => (b.toNat : Int)) = id := by
        funext b
        simp
      rw [this, List.map_id]
      cases hft : ft m v n with
      | nil => rfl
      | cons b l => rfl
end Go.Proofs.YtemihnclhcobnaaGreatDoor
namespace Go.Proofs.YtemihnclhcobnaaGreatDoor
open Go.Rv
set_option linter.unusedVariables false
variable {β : Type}
/-- What the letters say. -/
def scn : List UInt8 → Bool → Nat → Nat → Nat × Nat
  | [], _, m, v => (m, v)
  | b :: l, f, m, v =>
    if b.toNat = 33 then scn l true m v
    else if 97 ≤ b.toNat ∧ b.toNat < 102 then scn l false (m ||| 2 ^ (b.toNat - 97)) (cond f v (v ||| 2 ^ (b.toNat - 97)))
    else scn l f m v
theorem pow5 {k : Nat} (h : k < 5) : 2 ^ k < 2 ^ 5 := Nat.pow_lt_pow_right (by decide) h
theorem or5 {a b : Nat} (ha : a < 32) (hb : b < 2 ^ 5) : a ||| b < 32 := Nat.or_lt_two_pow (n := 5) ha hb
theorem scn_lt : ∀ (l : List UInt8) (f : Bool) (m v : Nat), m < 32 → v < 32 → (scn l f m v).1 < 32 ∧ (scn l f m v).2 < 32
  | [], f, m, v, hm, hv => ⟨hm, hv⟩
  | b :: l, f, m, v, hm, hv => by
    unfold scn
    split
    · exact scn_lt l _ _ _ hm hv
    · split
      · rename_i h
        have hp := pow5 (k := b.toNat - 97) (by omega)
        refine scn_lt l _ _ _ (or5 hm hp) ?_
        cases f
        · exact or5 hv hp
        · exact hv
      · exact scn_lt l _ _ _ hm hv
def goodB (n : Nat) (b : UInt8) : Bool := Nat.beq b.toNat 33 || (decide (97 ≤ b.toNat) && decide (b.toNat < 97 + n))
def good (n : Nat) (l : List UInt8) : Bool := l.all (goodB n)
theorem ft_good (n m v : Nat) (hn : n ≤ 5) : ∀ i, i ≤ n → good n (ft m v i) = true
  | 0, _ => rfl
  | i + 1, h => by
    have h1 := ft_good n m v hn i (by omega)
    have hb : goodB n (UInt8.ofNat (97 + i)) = true := by
      have e : (UInt8.ofNat (97 + i)).toNat = 97 + i := by rw [UInt8.toNat_ofNat']; omega
      unfold goodB
      rw [e, decide_eq_true (by omega), decide_eq_true (by omega)]
      simp
    unfold good at h1 ⊢
    rw [ft, List.all_append, h1, Bool.true_and]
    cases m.testBit i <;> cases v.testBit i <;> simp only [cond_true, cond_false, List.all_cons, List.all_nil, hb, Bool.and_true] <;> rfl

theorem bt_mid (pre rest : List UInt8) (b : UInt8) : bt (B (pre ++ b :: rest)) (pre.length : Int) = (b.toNat : Int) := by
  rw [B_bt _ pre.length (by simp)]
  simp
theorem eq33 (b : UInt8) : ((b.toNat : Int) == 33) = decide (b.toNat = 33) := by
  rw [Bool.eq_iff_iff, beq_iff_eq, decide_eq_true_eq]
  omega

theorem impl_scan (N n : Nat) (l : List UInt8) (hl : l.length ≤ 1000) (K0 : Int → ByteArray → Int → Int → Int → Int → Option β) : ∀ (rest pre : List UInt8) (F : Nat) (f : Bool) (m v : Nat), pre ++ rest = l → rest.length < F → m < 32 → v < 32 →
    zj105 N F (n : Int) (B l) (cond f 0 1) (l.length : Int) (pre.length : Int) 0 0 (m : Int) (v : Int) K0 = K0 (n : Int) (B l) 0 0 ((scn rest f m v).1 : Int) ((scn rest f m v).2 : Int) := by
  intro rest
  induction rest with
  | nil =>
    intro pre F f m v hp hF hm hv
    obtain ⟨G, rfl⟩ : ∃ G, F = G + 1 := ⟨F - 1, by simp at hF; omega⟩
    have hlen : l.length = pre.length := by rw [← hp]; simp
    simp only [zj105, zj104, scn]
    rw [decide_eq_false (by omega), cond_false]
  | cons b rest ih =>
    intro pre F f m v hp hF hm hv
    simp only [List.length_cons] at hF
    obtain ⟨G, rfl⟩ : ∃ G, F = G + 1 := ⟨F - 1, by omega⟩
    have hlen : l.length = pre.length + (rest.length + 1) := by rw [← hp]; simp
    have hbt : bt (B l) (pre.length : Int) = (b.toNat : Int) := by rw [← hp]; exact bt_mid pre rest b
    have hb := b.toNat_lt
    have next := fun f m v hm hv => ih (pre ++ [b]) G f m v (by rw [← hp]; simp) (by omega) hm hv
    simp only [List.length_append, List.length_cons, List.length_nil, Nat.zero_add] at next
    simp only [zj105, zj104, hbt, B_size, zj100, eq33]
    rw [decide_eq_true (by omega : (pre.length : Int) < (l.length : Int)), cond_true, gd_true (decide_eq_true (by omega)), gd_true rfl, w64_succ _ (by omega)]
    unfold scn
    by_cases h33 : b.toNat = 33
    · rw [decide_eq_true h33, cond_true, if_pos h33]
      exact next true m v hm hv
    · rw [decide_eq_false h33, cond_false, if_neg h33, gd_true (decide_eq_true (by omega)), gd_true rfl]
      by_cases h97 : 97 ≤ b.toNat
      · rw [decide_eq_true (by omega : (b.toNat : Int) ≥ 97), cond_true]
        by_cases h102 : b.toNat < 102
        · have hp5 := pow5 (k := b.toNat - 97) (by omega)
          have hw : w8 ((b.toNat : Int) - 97) = ((b.toNat - 97 : Nat) : Int) := by
            rw [show (b.toNat : Int) - 97 = ((b.toNat - 97 : Nat) : Int) by omega, w8_small _ (by omega)]
          rw [decide_eq_true (by omega : (b.toNat : Int) < 102), cond_true, if_pos ⟨h97, h102⟩, hw, gd_true (decide_eq_true (by omega)), gd_true rfl, gd_true (decide_eq_true (by omega)), gd_true (decide_eq_true (by omega)), gd_true rfl, gd_true (decide_eq_true (by omega)), shl_one _ (by omega), bOr m _ (by omega) (by omega)]
          cases f with
          | false =>
            have e : shlI .i64 (cond false 0 1) ((b.toNat - 97 : Nat) : Int) = ((2 ^ (b.toNat - 97) : Nat) : Int) := shl_one _ (by omega)
            rw [e, bOr v _ (by omega) (by omega)]
            exact next false _ _ (or5 hm hp5) (or5 hv hp5)
          | true =>
            have e : shlI .i64 (cond true 0 1) ((b.toNat - 97 : Nat) : Int) = ((0 : Nat) : Int) := by
              have := shl_nat 0 (b.toNat - 97) (by omega) (by omega)
              rw [Nat.zero_mul] at this
              exact this
            rw [e, bOr v 0 (by omega) (by omega), Nat.or_zero]
            exact next false _ _ (or5 hm hp5) hv
        · rw [decide_eq_false (by omega), cond_false, if_neg (by omega)]
          exact next f m v hm hv
      · rw [decide_eq_false (by omega), cond_false, cond_false, if_neg (by omega)]
        exact next f m v hm hv

theorem spec_scan (N n : Nat) (hn : n ≤ 5) (l : List UInt8) (hl : l.length ≤ 1000) (h1 : l ≠ [49]) (k0 : Bool → Int → Int → Option β) (K0 : Int → ByteArray → Int → Int → Int → Int → Option β) : ∀ (rest pre : List UInt8) (F : Nat) (f : Bool) (m v : Nat), pre ++ rest = l → rest.length < F → m < 32 → v < 32 →
    zj11 N F (n : Int) (B l) f (pre.length : Int) 0 0 (m : Int) (v : Int) k0 K0 = cond (good n rest) (K0 (n : Int) (B l) 0 0 ((scn rest f m v).1 : Int) ((scn rest f m v).2 : Int)) (k0 false 0 0) := by
  have h49 : ((B l).toList == (strOf [49]).toList) = false := by
    rw [B_toList, B_strOf, B_toList]
    exact beq_eq_false_iff_ne.2 h1
  intro rest
  induction rest with
  | nil =>
    intro pre F f m v hp hF hm hv
    obtain ⟨G, rfl⟩ : ∃ G, F = G + 1 := ⟨F - 1, by simp at hF; omega⟩
    have hlen : l.length = pre.length := by rw [← hp]; simp
    simp only [zj11, zj10, scn, B_size]
    rw [decide_eq_false (by omega), cond_false]
    rfl
  | cons b rest ih =>
    intro pre F f m v hp hF hm hv
    simp only [List.length_cons] at hF
    obtain ⟨G, rfl⟩ : ∃ G, F = G + 1 := ⟨F - 1, by omega⟩
    have hlen : l.length = pre.length + (rest.length + 1) := by rw [← hp]; simp
    have hbt : bt (B l) (pre.length : Int) = (b.toNat : Int) := by rw [← hp]; exact bt_mid pre rest b
    have hb := b.toNat_lt
    have next := fun f m v hm hv => ih (pre ++ [b]) G f m v (by rw [← hp]; simp) (by omega) hm hv
    simp only [List.length_append, List.length_cons, List.length_nil, Nat.zero_add] at next
    have hg : good n (b :: rest) = (goodB n b && good n rest) := rfl
    simp only [zj11, zj10, hbt, B_size, eq33, h49, spec_l1In_eq]
    rw [decide_eq_true (by omega : (pre.length : Int) < (l.length : Int)), cond_true, Bool.not_false, cond_true, gd_true (decide_eq_true (by omega)), gd_true rfl, w64_succ _ (by omega), hg]
    unfold scn
    by_cases h33 : b.toNat = 33
    · have hgb : goodB n b = true := by unfold goodB; rw [h33]; rfl
      rw [decide_eq_true h33, cond_true, if_pos h33, hgb, Bool.true_and]
      exact next true m v hm hv
    · rw [decide_eq_false h33, cond_false, if_neg h33, gd_true (decide_eq_true (by omega)), gd_true rfl, decide_eq_true (by omega : (0 : Int) ≤ (n : Int)), decide_eq_true (by omega : (n : Int) ≤ 5), Bool.and_self, Bool.not_true, cond_false, w64_id (x := (b.toNat : Int)) (by omega) (by omega), w64_id (by omega) (by omega), w64_id (by omega) (by omega)]
      have hne : Nat.beq b.toNat 33 = false := by
        cases hq : Nat.beq b.toNat 33 with
        | false => rfl
        | true => exact absurd (Nat.eq_of_beq_eq_true hq) h33
      unfold goodB
      rw [hne, Bool.false_or]
      by_cases h97 : 97 ≤ b.toNat
      · rw [decide_eq_true (by omega : (0 : Int) ≤ (b.toNat : Int) - 97), decide_eq_true h97, Bool.true_and, Bool.true_and]
        by_cases h102 : b.toNat < 97 + n
        · have hp5 := pow5 (k := b.toNat - 97) (by omega)
          rw [decide_eq_true (by omega : (b.toNat : Int) - 97 ≤ (n : Int) - 1), decide_eq_true h102, Bool.not_true, cond_false, Bool.true_and, gd_true rfl, if_pos ⟨h97, by omega⟩, show (b.toNat : Int) - 97 = ((b.toNat - 97 : Nat) : Int) by omega, shl_one _ (by omega), bOr m _ (by omega) (by omega)]
          cases f with
          | false =>
            rw [Bool.not_false, cond_true, gd_true rfl, bOr v _ (by omega) (by omega)]
            exact next false _ _ (or5 hm hp5) (or5 hv hp5)
          | true =>
            rw [Bool.not_true, cond_false]
            exact next false _ _ (or5 hm hp5) hv
        · rw [decide_eq_false (by omega : ¬ (b.toNat : Int) - 97 ≤ (n : Int) - 1), decide_eq_false h102]
          rfl
      · rw [decide_eq_false (by omega : ¬ (0 : Int) ≤ (b.toNat : Int) - 97), decide_eq_false h97]
        rfl

/-- A term read. -/
def ptm (n : Nat) (l : List UInt8) : Option (Nat × Nat) :=
  if l = [49] then some (0, 0) else if l = [] then none else if ftb n (scn l false 0 0).1 (scn l false 0 0).2 = l then some (scn l false 0 0) else none
def ptK (o : Option (Nat × Nat)) (K : Int → Int → Bool → Option β) : Option β := match o with
  | some p => K (p.1 : Int) (p.2 : Int) true
  | none => K 0 0 false
theorem ftb_one (n : Nat) (hn : n ≤ 5) : ftb n 0 0 = [49] := by
  have : ∀ n, n ≤ 5 → ftb n 0 0 = [49] := by decide +kernel
  exact this n hn
theorem pt_ok {n : Nat} {l : List UInt8} {p : Nat × Nat} (hn : n ≤ 5) (h : ptm n l = some p) : okT n p.1 p.2 = true ∧ p.1 < 32 ∧ p.2 < 32 := by
  unfold ptm at h
  split at h
  · cases h
    have : ∀ n, n ≤ 5 → okT n 0 0 = true := by decide +kernel
    exact ⟨this n hn, by decide, by decide⟩
  · split at h
    · cases h
    · split at h
      · rename_i h1 h2 h3
        cases h
        refine ⟨?_, scn_lt _ _ _ _ (by decide) (by decide)⟩
        cases hok : okT n (scn l false 0 0).1 (scn l false 0 0).2 with
        | true => rfl
        | false =>
          unfold ftb at h3
          rw [hok, cond_false] at h3
          exact absurd h3.symm h2
      · cases h
theorem impl_ParseTerm_n (N : Nat) (hN : 1048576 < N) (n : Nat) (hn : n ≤ 5) (l : List UInt8) (hl : l.length ≤ 1000) (K : Int → Int → Bool → Option β) : zj106 N (n : Int) (B l) K = ptK (ptm n l) K := by
  unfold zj106 ptm
  rw [B_toList, B_strOf, B_toList, B_size]
  have he : ByteArray.empty.toList = ([] : List UInt8) := B_toList []
  by_cases h1 : l = [49]
  · subst h1
    have e := fun K => impl_FormatTerm_n (β := β) N hN n 0 0 hn (by decide) (by decide) K
    simp only [Int.natCast_zero, ftb_one n hn] at e
    rw [if_pos rfl, e, he, B_toList]
    rfl
  · obtain ⟨s1, s2⟩ := scn_lt l false 0 0 (by decide) (by decide)
    have hs := impl_scan (β := β) N n l hl (fun e0 e1 e2 e3 e4 e5 => cond (e1.toList == ByteArray.empty.toList) (K 0 0 false) (zj103 N e0 e4 e5 fun r7 => cond (!(r7.toList == e1.toList)) (K 0 0 false) (K e4 e5 true))) l [] N false 0 0 rfl (by omega) (by decide) (by decide)
    have hne : (l == List.map (fun n : Int => UInt8.ofNat n.toNat) [49]) = false := beq_eq_false_iff_ne.2 h1
    rw [hne, Bool.not_false, cond_true, if_neg h1]
    refine hs.trans ?_
    rw [B_toList, he, impl_FormatTerm_n N hN n _ _ hn s1 s2, B_toList]
    by_cases h0 : l = []
    · subst h0; rfl
    · rw [beq_eq_false_iff_ne.2 h0, cond_false, if_neg h0]
      by_cases h2 : ftb n (scn l false 0 0).1 (scn l false 0 0).2 = l
      · rw [if_pos h2, beq_iff_eq.2 h2]; rfl
      · rw [if_neg h2, beq_eq_false_iff_ne.2 h2]; rfl
theorem spec_ParseTerm_n (N : Nat) (hN : 1048576 < N) (n : Nat) (hn : n ≤ 5) (l : List UInt8) (hl : l.length ≤ 1000) (K : Int → Int → Bool → Option β) : zj12 N (n : Int) (B l) K = ptK (ptm n l) K := by
  unfold zj12 ptm
  have he : ByteArray.empty.toList = ([] : List UInt8) := B_toList []
  by_cases h1 : l = [49]
  · subst h1
    have e := fun K => spec_FormatTerm_n (β := β) N hN n 0 0 hn (by decide) (by decide) K
    simp only [Int.natCast_zero, ftb_one n hn] at e
    rw [if_pos rfl]
    obtain ⟨G, rfl⟩ : ∃ G, N = G + 1 := ⟨N - 1, by omega⟩
    simp only [zj11, zj10]
    rw [e, he, B_toList, B_strOf, B_toList]
    rfl
  · obtain ⟨s1, s2⟩ := scn_lt l false 0 0 (by decide) (by decide)
    have hs := spec_scan (β := β) N n hn l hl h1 (fun e0 e1 e2 => K e1 e2 e0) (fun e0 e1 e2 e3 e4 e5 => cond (e1.toList == ByteArray.empty.toList) (K 0 0 false) (zj9 N e0 e4 e5 fun r9 => cond (!(r9.toList == e1.toList)) (K 0 0 false) (K e4 e5 true))) l [] N false 0 0 rfl (by omega) (by decide) (by decide)
    rw [if_neg h1]
    refine hs.trans ?_
    rw [B_toList, he, spec_FormatTerm_n N hN n _ _ hn s1 s2, B_toList]
    by_cases h0 : l = []
    · subst h0; rfl
    · rw [beq_eq_false_iff_ne.2 h0, cond_false, if_neg h0]
      by_cases h2 : ftb n (scn l false 0 0).1 (scn l false 0 0).2 = l
      · have hg : good n l = true := by
          unfold ftb at h2
          cases hok : okT n (scn l false 0 0).1 (scn l false 0 0).2 with
          | false => rw [hok, cond_false] at h2; exact absurd h2.symm h0
          | true =>
            rw [hok, cond_true] at h2
            cases hf : (ft (scn l false 0 0).1 (scn l false 0 0).2 n == []) with
            | true => rw [hf, cond_true] at h2; exact absurd h2.symm h1
            | false =>
              rw [hf, cond_false] at h2
              rw [← h2]
              exact ft_good n _ _ hn n (Nat.le_refl _)
        rw [if_pos h2, beq_iff_eq.2 h2, hg]; rfl
      · rw [if_neg h2, beq_eq_false_iff_ne.2 h2]
        cases good n l <;> rfl
end Go.Proofs.YtemihnclhcobnaaGreatDoor
namespace Go.Proofs.YtemihnclhcobnaaGreatDoor
open Go.Rv
set_option linter.unusedVariables false
variable {β : Type}
/-! ### Of no table's size -/
section
variable (N : Nat) (hN : 1048576 < N) (a : Int) (ha : (decide (0 ≤ a) && decide (a ≤ 5)) = false)
include ha
theorem spec_IsTerm_bad (m v : Int) (K : Bool → Option β) : zj6 N a m v K = K false := by
  unfold zj6
  rw [spec_l1In_eq, ha]
  rfl
include hN
theorem spec_FormatTerm_bad (m v : Int) (K : ByteArray → Option β) : zj9 N a m v K = K (B []) := by
  have e := fun m v (K : Bool → Option β) => spec_IsTerm_bad N a ha m v K
  obtain ⟨G, rfl⟩ : ∃ G, N = G + 1 := ⟨N - 1, by omega⟩
  unfold zj9
  simp only [zj8, zj7, e, cond_false]
  rw [beq_self_eq_true, cond_true]
  rfl
theorem spec_ParseTerm_bad (l : List UInt8) (hl : l.length ≤ 1000) (K : Int → Int → Bool → Option β) : zj12 N a (B l) K = K 0 0 false := by
  have he : ByteArray.empty.toList = ([] : List UInt8) := B_toList []
  have hF := fun m v (K : ByteArray → Option β) => spec_FormatTerm_bad N hN a ha m v K
  have hk1 : ∀ m v : Int, (cond ((B l).toList == ByteArray.empty.toList) (K 0 0 false) (zj9 N a m v fun r9 => cond (!(r9.toList == (B l).toList)) (K 0 0 false) (K m v true))) = K 0 0 false := fun m v => by
    rw [hF, B_toList, he, B_toList]
    cases l with
    | nil => rfl
    | cons b l => rfl
  unfold zj12
  by_cases h1 : l = [49]
  · obtain ⟨G, hG⟩ : ∃ G, N = G + 1 := ⟨N - 1, by omega⟩
    have hq : ((B l).toList == (strOf [49]).toList) = true := by rw [B_toList, B_strOf, B_toList, h1]; rfl
    rw [show zj11 (β := β) N N = zj11 N (G + 1) by rw [← hG]]
    simp only [zj11, zj10, hq, Bool.not_true, cond_false]
    cases decide ((0 : Int) < ((B l).size : Int)) <;> exact hk1 0 0
  · have hq : ((B l).toList == (strOf [49]).toList) = false := by
      rw [B_toList, B_strOf, B_toList]
      exact beq_eq_false_iff_ne.2 h1
    have main : ∀ (rest pre : List UInt8) (F : Nat) (f : Bool), pre ++ rest = l → rest.length < F →
        zj11 N F a (B l) f (pre.length : Int) 0 0 0 0 (fun e0 e1 e2 => K e1 e2 e0) (fun e0 e1 e2 e3 e4 e5 => cond (e1.toList == ByteArray.empty.toList) (K 0 0 false) (zj9 N e0 e4 e5 fun r9 => cond (!(r9.toList == e1.toList)) (K 0 0 false) (K e4 e5 true))) = K 0 0 false := by
      intro rest
      induction rest with
      | nil =>
        intro pre F f hp hF
        obtain ⟨G, rfl⟩ : ∃ G, F = G + 1 := ⟨F - 1, by simp at hF; omega⟩
        have hlen : l.length = pre.length := by rw [← hp]; simp
        simp only [zj11, zj10, B_size]
        rw [decide_eq_false (by omega), cond_false]
        exact hk1 0 0
      | cons b rest ih =>
        intro pre F f hp hF
        simp only [List.length_cons] at hF
        obtain ⟨G, rfl⟩ : ∃ G, F = G + 1 := ⟨F - 1, by omega⟩
        have hlen : l.length = pre.length + (rest.length + 1) := by rw [← hp]; simp
        have next := fun f => ih (pre ++ [b]) G f (by rw [← hp]; simp) (by omega)
        simp only [List.length_append, List.length_cons, List.length_nil, Nat.zero_add] at next
        simp only [zj11, zj10, B_size, hq, spec_l1In_eq, ha]
        rw [decide_eq_true (by omega : (pre.length : Int) < (l.length : Int)), cond_true, Bool.not_false, cond_true, gd_true (decide_eq_true (by omega)), gd_true rfl, w64_succ _ (by omega)]
        cases bt (B l) (pre.length : Int) == 33 with
        | true => rw [cond_true]; exact next true
        | false => rw [cond_false, gd_true (decide_eq_true (by omega)), gd_true rfl, cond_true]
    exact main l [] N false rfl (by omega)
end

/-! ### Sums -/
def tl (l : List (Nat × Nat)) : List (Int × Int) := l.map fun p => ((p.1 : Int), (p.2 : Int))
theorem tl_len (l : List (Nat × Nat)) : (tl l).length = l.length := by simp [tl]
theorem tl_snoc (l : List (Nat × Nat)) (p : Nat × Nat) : tl (l ++ [p]) = tl l ++ [((p.1 : Int), (p.2 : Int))] := by simp [tl]
def run (q : List UInt8 → Option (Nat × Nat)) : List (List UInt8) → List (Nat × Nat) → Option (List (Nat × Nat))
  | [], out => some out
  | p :: ps, out => match q p with
    | some t => run q ps (out ++ [t])
    | none => none
def runK (o : Option (List (Nat × Nat))) (k1 : List (Nat × Nat) → Option β) (k0 : Option β) : Option β := match o with
  | some o => k1 o
  | none => k0
theorem run_ok {q : List UInt8 → Option (Nat × Nat)} {p : Nat × Nat → Prop} (hq : ∀ l t, q l = some t → p t) : ∀ (ps : List (List UInt8)) (out o : List (Nat × Nat)), run q ps out = some o → (∀ t ∈ out, p t) → (∀ t ∈ o, p t) ∧ o.length = out.length + ps.length
  | [], out, o, h, ho => by cases h; exact ⟨ho, rfl⟩
  | l :: ps, out, o, h, ho => by
    unfold run at h
    cases hl : q l with
    | none => rw [hl] at h; cases h
    | some t =>
      rw [hl] at h
      obtain ⟨h1, h2⟩ := run_ok hq ps (out ++ [t]) o h fun x hx => by
        rcases List.mem_append.1 hx with hx | hx
        · exact ho x hx
        · simp only [List.mem_singleton] at hx; rw [hx]; exact hq _ _ hl
      refine ⟨h1, ?_⟩
      rw [h2]
      simp
      omega
theorem spl_len (c : UInt8) : ∀ (l acc : List UInt8), (spl c acc l).length ≤ l.length + 1 ∧ ∀ p ∈ spl c acc l, p.length ≤ acc.length + l.length
  | [], acc => by simp [spl]
  | b :: l, acc => by
    unfold spl
    split
    · obtain ⟨h1, h2⟩ := spl_len c l []
      refine ⟨by simp only [List.length_cons]; omega, fun p hp => ?_⟩
      rcases List.mem_cons.1 hp with rfl | hp
      · simp
      · have := h2 p hp
        simp only [List.length_nil, List.length_cons] at this ⊢
        omega
    · obtain ⟨h1, h2⟩ := spl_len c l (acc ++ [b])
      refine ⟨by simp only [List.length_cons]; omega, fun p hp => ?_⟩
      have := h2 p hp
      simp only [List.length_append, List.length_nil, List.length_cons] at this ⊢
      omega

theorem spec_sum (N : Nat) (a : Int) (q : List UInt8 → Option (Nat × Nat)) (hq : ∀ p, p.length ≤ 1000 → ∀ K : Int → Int → Bool → Option β, zj12 N a (B p) K = ptK (q p) K) (l : List UInt8) (hl : l.length ≤ 200)
    (k0 : Bool → List (Int × Int) → Option β) (k1 : Int → ByteArray → List (Int × Int) → Option β) : ∀ (rest pre acc : List UInt8) (F : Nat) (out : List (Nat × Nat)), pre ++ rest = l → rest.length + 1 < F → acc.length ≤ pre.length → out.length ≤ pre.length →
    zj29 N F a (B l) (B acc) (pre.length : Int) (tl out) k0 k1 = runK (run q (spl 124 acc rest) out) (fun o => k1 a (B l) (tl o)) (k0 false []) := by
  intro rest
  induction rest with
  | nil =>
    intro pre acc F out hp hF hacc hout
    obtain ⟨G, rfl⟩ : ∃ G, F = G + 1 + 1 := ⟨F - 2, by simp at hF; omega⟩
    have hlen : l.length = pre.length := by rw [← hp]; simp
    rw [show zj29 (β := β) N (G + 1 + 1) = fun v0 v1 v2 v3 v4 k0 k1 => zj28 N v0 v1 v2 v3 v4 (fun v0 v1 v2 v3 v4 => zj29 N (G + 1) v0 v1 v2 v3 v4 k0 k1) k0 k1 from rfl]
    simp only [zj28, B_size]
    rw [decide_eq_true (by omega : (pre.length : Int) ≤ (l.length : Int)), cond_true, decide_eq_true (by omega : (l.length : Int) ≤ 200), cond_true, decide_eq_false (by omega : ¬ (pre.length : Int) < (l.length : Int)), cond_false, hq acc (by omega)]
    simp only [spl, run]
    cases hqa : q acc with
    | none => rfl
    | some t =>
      simp only [ptK, Bool.not_true, cond_false, List.nil_append, List.length_cons, List.length_nil]
      rw [gd_true (decide_eq_true (by rw [tl_len]; omega)), ← tl_snoc, w64_succ _ (by omega)]
      simp only [zj29, zj28, B_size]
      rw [decide_eq_false (by omega), cond_false]
      rfl
  | cons b rest ih =>
    intro pre acc F out hp hF hacc hout
    simp only [List.length_cons] at hF
    obtain ⟨G, rfl⟩ : ∃ G, F = G + 1 := ⟨F - 1, by omega⟩
    have hlen : l.length = pre.length + (rest.length + 1) := by rw [← hp]; simp
    have hbt : bt (B l) (pre.length : Int) = (b.toNat : Int) := by rw [← hp]; exact bt_mid pre rest b
    have next := fun acc out h1 h2 => ih (pre ++ [b]) acc G out (by rw [← hp]; simp) (by omega) h1 h2
    simp only [List.length_append, List.length_cons, List.length_nil, Nat.zero_add] at next
    have hex : (l.take (pre.length + 1)).drop pre.length = [b] := by
      rw [← hp, List.drop_take]
      simp
    simp only [zj29, zj28, B_size, hbt]
    rw [decide_eq_true (by omega : (pre.length : Int) ≤ (l.length : Int)), cond_true, decide_eq_true (by omega : (l.length : Int) ≤ 200), cond_true, decide_eq_true (by omega : (pre.length : Int) < (l.length : Int)), cond_true, gd_true (decide_eq_true (by omega)), gd_true rfl, w64_succ _ (by omega), Int.toNat_natCast, Int.toNat_natCast, B_ext, hex]
    by_cases h124 : b = 124
    · subst h124
      rw [show ((((124 : UInt8).toNat : Nat) : Int) != 124) = false from rfl, cond_false, hq acc (by omega)]
      simp only [spl, if_true, run]
      cases hqa : q acc with
      | none => rfl
      | some t =>
        simp only [ptK, Bool.not_true, cond_false, List.nil_append, List.length_cons, List.length_nil]
        rw [gd_true (decide_eq_true (by rw [tl_len]; omega)), ← tl_snoc]
        exact next [] (out ++ [t]) (by simp) (by simp; omega)
    · have hne : ((b.toNat : Int) != 124) = true := by
        rw [bne_iff_ne]
        intro e
        apply h124
        apply UInt8.toNat_inj.1
        show b.toNat = 124
        omega
      rw [hne, cond_true, gd_true (decide_eq_true (by omega)), gd_true (decide_eq_true (by omega)), gd_true (decide_eq_true (by omega)), gd_true (decide_eq_true (by omega)), B_app]
      simp only [B_size]
      rw [gd_true (decide_eq_true (by simp; omega)), spl, if_neg h124]
      exact next (acc ++ [b]) out (by simp; omega) (by omega)

theorem impl_sum (N : Nat) (a : Int) (q : List UInt8 → Option (Nat × Nat)) (hq : ∀ p, p.length ≤ 1000 → ∀ K : Int → Int → Bool → Option β, zj106 N a (B p) K = ptK (q p) K) (ps : List (List UInt8)) (hps : ps.length ≤ 1000) (hp1 : ∀ p ∈ ps, p.length ≤ 1000)
    (k0 : Bool → List (Int × Int) → Option β) (k1 : Int → List (Int × Int) → Option β) : ∀ (rest pre : List (List UInt8)) (F : Nat) (out : List (Nat × Nat)), pre ++ rest = ps → rest.length < F → out.length ≤ pre.length →
    zj120 N F a (ps.length : Int) (pre.length : Int) (tl out) (ps.map B) k0 k1 = runK (run q rest out) (fun o => k1 a (tl o)) (k0 false []) := by
  intro rest
  induction rest with
  | nil =>
    intro pre F out hp hF hout
    obtain ⟨G, rfl⟩ : ∃ G, F = G + 1 := ⟨F - 1, by simp at hF; omega⟩
    have hlen : ps.length = pre.length := by rw [← hp]; simp
    simp only [zj120, zj119]
    rw [decide_eq_false (by omega), cond_false]
    rfl
  | cons p rest ih =>
    intro pre F out hp hF hout
    simp only [List.length_cons] at hF
    obtain ⟨G, rfl⟩ : ∃ G, F = G + 1 := ⟨F - 1, by omega⟩
    have hlen : ps.length = pre.length + (rest.length + 1) := by rw [← hp]; simp
    have hrd : rd ByteArray.empty (ps.map B) (pre.length : Int) = B p := by
      rw [← hp]
      simp [rd, List.getD_eq_getElem?_getD]
    have next := fun out h => ih (pre ++ [p]) G out (by rw [← hp]; simp) (by omega) h
    simp only [List.length_append, List.length_cons, List.length_nil, Nat.zero_add] at next
    simp only [zj120, zj119, hrd, List.length_map]
    rw [decide_eq_true (by omega : (pre.length : Int) < (ps.length : Int)), cond_true, gd_true (decide_eq_true (by omega)), gd_true rfl, hq p (hp1 p (by rw [← hp]; simp)), w64_succ _ (by omega)]
    simp only [run]
    cases hqa : q p with
    | none => rfl
    | some t =>
      simp only [ptK, Bool.not_true, cond_false, List.nil_append, List.length_cons, List.length_nil]
      rw [gd_true (decide_eq_true (by rw [tl_len]; omega)), ← tl_snoc]
      exact next (out ++ [t]) (by simp; omega)

/-! ### Whether all are terms -/
def Good (n : Nat) (t : Nat × Nat) : Prop := okT n t.1 t.2 = true ∧ t.1 < 32 ∧ t.2 < 32
theorem rd_tl (o : List (Nat × Nat)) (i : Nat) (h : i < o.length) : rd (0, 0) (tl o) (i : Int) = ((o[i].1 : Int), (o[i].2 : Int)) := by
  simp [rd, tl, List.getD_eq_getElem?_getD, List.getElem?_eq_getElem h]
theorem spec_valid (N : Nat) (hN : 1048576 < N) (n : Nat) (hn : n ≤ 5) (o : List (Nat × Nat)) (ho : o.length ≤ 1000) (hg : ∀ t ∈ o, Good n t) (K : Bool → Option β) : zj27 N (n : Int) (tl o) K = K (decide ((o.length : Int) ≤ 40)) := by
  unfold zj27
  refine loop_st (fun F i => zj26 N F (n : Int) (tl o) (i : Int) (fun e => K e) fun e0 e1 => zj0 N e0 0 5 fun r6 => cond r6 (K (decide ((e1.length : Int) ≤ 40))) (K false)) o.length _ (fun F i hi => ?_) (fun F => ?_) N 0 (by omega) (by omega)
  · obtain ⟨h1, h2, h3⟩ := hg o[i] (List.getElem_mem hi)
    simp only [zj26, zj25, tl_len, rd_tl o i hi]
    rw [decide_eq_true (by omega : (i : Int) < (o.length : Int)), cond_true, gd_true (decide_eq_true (by omega)), gd_true rfl, spec_IsTerm_n N n _ _ hn h2 h3, h1, Bool.not_true, cond_false, w64_succ i (by omega)]
  · simp only [zj26, zj25, tl_len]
    rw [decide_eq_false (by omega), cond_false, spec_l1In_eq, decide_eq_true (by omega : (0 : Int) ≤ (n : Int)), decide_eq_true (by omega : (n : Int) ≤ 5)]
    rfl
theorem impl_valid (N : Nat) (hN : 1048576 < N) (n : Nat) (hn : n ≤ 5) (o : List (Nat × Nat)) (ho : o.length ≤ 1000) (hg : ∀ t ∈ o, Good n t) (K : Bool → Option β) : zj118 N (n : Int) (tl o) K = K (decide ((o.length : Int) ≤ 40)) := by
  unfold zj118 zj117 zj71 zj80 zj79
  rw [decide_eq_true (by omega : (n : Int) ≥ 0), cond_true, decide_eq_true (by omega : (n : Int) ≤ 5)]
  dsimp only
  rw [cond_true, tl_len]
  have main := fun (K : Int → Option β) => loop_st (fun F i => zj78 N (fun x0 x1 k => zj74 N x0 x1 (n : Int) k) F (tl o) (o.length : Int) (i : Int) (fun e => K e) (K (-1))) o.length (K (-1)) (fun F i hi => by
    obtain ⟨h1, h2, h3⟩ := hg o[i] (List.getElem_mem hi)
    simp only [zj78, zj77, tl_len, rd_tl o i hi, zj74]
    rw [decide_eq_true (by omega : (i : Int) < (o.length : Int)), cond_true, gd_true (decide_eq_true (by omega)), gd_true rfl, impl_IsTerm_n N n _ _ hn h2 h3, h1, Bool.not_true, cond_false, w64_succ i (by omega)]) (fun F => by
    simp only [zj78, zj77]
    rw [decide_eq_false (by omega), cond_false]) N 0 (by omega) (by omega)
  refine (main _).trans ?_
  rfl

theorem Sum_both (N : Nat) (hN : 1048576 < N) (a : Int) (l : List UInt8) :
    ∃ (o : List (Nat × Nat)) (b : Bool), o.length ≤ 40 ∧ (∀ n : Nat, a = n → n ≤ 5 → ∀ t ∈ o, Good n t) ∧ (∀ K : List (Int × Int) → Bool → Option β, zj30 N a (B l) K = K (tl o) b) ∧ (∀ K : List (Int × Int) → Bool → Option β, zj121 N a (B l) K = K (tl o) b) := by
  have h48 : ((B l).toList == (strOf [48]).toList) = (l == [48]) := by rw [B_toList, B_strOf, B_toList]; rfl
  have hbits : ∀ K : Bool → Option β, zj71 N a K = K (decide (0 ≤ a) && decide (a ≤ 5)) := fun K => by
    unfold zj71
    by_cases h : 0 ≤ a
    · rw [decide_eq_true (show a ≥ 0 from h), cond_true, Bool.true_and]
    · rw [decide_eq_false (show ¬ a ≥ 0 from h)]; rfl
  cases hl0 : (l == [48]) with
  | true =>
    refine ⟨[], (decide (0 ≤ a) && decide (a ≤ 5)), by simp, by simp, fun K => ?_, fun K => ?_⟩
    · unfold zj30
      rw [h48, hl0, cond_true, spec_l1In_eq]
      rfl
    · have hl := eq_of_beq hl0
      unfold zj121
      rw [hbits, h48, hl0, B_size, hl]
      cases (decide (0 ≤ a) && decide (a ≤ 5)) <;> rfl
  | false =>
    by_cases hlen : l.length ≤ 200
    · have hs : ∀ K : List (Int × Int) → Bool → Option β, zj30 N a (B l) K = zj29 N N a (B l) (B []) (([] : List UInt8).length : Int) (tl []) (fun e0 e1 => K e1 e0) (fun e0 e1 e2 => cond (decide ((e1.size : Int) > 200)) (K [] false) (zj27 N e0 e2 fun r13 => cond (!r13) (K [] false) (K e2 true))) := fun K => by
        unfold zj30
        rw [h48, hl0]
        rfl
      cases hn : (decide (0 ≤ a) && decide (a ≤ 5)) with
      | false =>
        refine ⟨[], false, by simp, by simp, fun K => ?_, fun K => ?_⟩
        · rw [hs, spec_sum N a (fun _ => none) (fun p hp K => spec_ParseTerm_bad N hN a hn p hp K) l hlen _ _ l [] [] N [] rfl (by omega) (by simp) (by simp)]
          have : run (fun _ => none) (spl 124 [] l) [] = none := by
            have hne : spl 124 [] l ≠ [] := by
              cases l with
              | nil => simp [spl]
              | cons b l => unfold spl; split; · simp
                            · intro h
                              have key : ∀ (l acc : List UInt8), spl 124 acc l ≠ [] := by
                                intro l
                                induction l with
                                | nil => intro acc; simp [spl]
                                | cons b l ih => intro acc; unfold spl; split; · simp
                                                 · exact ih _
                              exact key _ _ h
            cases hsp : spl 124 [] l with
            | nil => exact absurd hsp hne
            | cons p ps => rfl
          rw [this]
          rfl
        · unfold zj121
          rw [hbits, hn]
          rfl
      | true =>
        simp only [Bool.and_eq_true, decide_eq_true_eq] at hn
        obtain ⟨n, rfl⟩ := Int.eq_ofNat_of_zero_le hn.1
        have hn5 : n ≤ 5 := by omega
        obtain ⟨h1, h2⟩ := spl_len 124 l []
        simp only [List.length_nil, Nat.zero_add] at h2
        have e1 : ∀ K : List (Int × Int) → Bool → Option β, zj30 N (n : Int) (B l) K = runK (run (ptm n) (spl 124 [] l) []) (fun o => zj27 N (n : Int) (tl o) fun r13 => cond (!r13) (K [] false) (K (tl o) true)) (K [] false) := fun K => by
          rw [hs, spec_sum N n (ptm n) (fun p hp K => spec_ParseTerm_n N hN n hn5 p hp K) l hlen _ _ l [] [] N [] rfl (by omega) (by simp) (by simp)]
          congr 1
          funext o
          rw [B_size, decide_eq_false (by omega), cond_false]
        have e2 : ∀ K : List (Int × Int) → Bool → Option β, zj121 N (n : Int) (B l) K = runK (run (ptm n) (spl 124 [] l) []) (fun o => zj118 N (n : Int) (tl o) fun r11 => cond (!r11) (K [] false) (K (tl o) true)) (K [] false) := fun K => by
          unfold zj121 strings_Split
          have hsep : strOf [124] = ⟨#[124]⟩ := rfl
          rw [hbits, decide_eq_true (by omega : (0 : Int) ≤ (n : Int)), decide_eq_true (by omega : (n : Int) ≤ 5), Bool.and_self, Bool.not_true, cond_false, B_size, decide_eq_false (by omega), cond_false, h48, hl0, cond_false, hsep, gd_true (decide_eq_true (show (⟨#[124]⟩ : ByteArray).size = 1 from rfl)), gd_true (decide_eq_true (by omega)), splitB_spl, B_list]
          dsimp only
          rw [List.length_map]
          exact impl_sum N n (ptm n) (fun p hp K => impl_ParseTerm_n N hN n hn5 p hp K) (spl 124 [] l) (by omega) (fun p hp => by have := h2 p hp; omega) (fun e0 e1 => K e1 e0) (fun e0 e1 => zj118 N e0 e1 fun r11 => cond (!r11) (K [] false) (K e1 true)) (spl 124 [] l) [] N [] rfl (by omega) (by simp)
        cases hr : run (ptm n) (spl 124 [] l) [] with
        | none => exact ⟨[], false, by simp, by simp, fun K => by rw [e1, hr]; rfl, fun K => by rw [e2, hr]; rfl⟩
        | some o =>
          obtain ⟨g1, g2⟩ := run_ok (p := Good n) (fun l t h => pt_ok hn5 h) _ _ _ hr (by simp)
          simp only [List.length_nil, Nat.zero_add] at g2
          by_cases h40 : o.length ≤ 40
          · refine ⟨o, true, h40, fun m hm _ t ht => (show m = n by omega) ▸ g1 t ht, fun K => ?_, fun K => ?_⟩
            · rw [e1, hr]
              simp only [runK]
              rw [spec_valid N hN n hn5 o (by omega) g1, decide_eq_true (by omega)]
              rfl
            · rw [e2, hr]
              simp only [runK]
              rw [impl_valid N hN n hn5 o (by omega) g1, decide_eq_true (by omega)]
              rfl
          · refine ⟨[], false, by simp, by simp, fun K => ?_, fun K => ?_⟩
            · rw [e1, hr]
              simp only [runK]
              rw [spec_valid N hN n hn5 o (by omega) g1, decide_eq_false (by omega)]
              rfl
            · rw [e2, hr]
              simp only [runK]
              rw [impl_valid N hN n hn5 o (by omega) g1, decide_eq_false (by omega)]
              rfl
    · refine ⟨[], false, by simp, by simp, fun K => ?_, fun K => ?_⟩
      · unfold zj30
        rw [h48, hl0, cond_false]
        obtain ⟨G, rfl⟩ : ∃ G, N = G + 1 := ⟨N - 1, by omega⟩
        simp only [zj29, zj28, B_size]
        rw [decide_eq_true (by omega : (0 : Int) ≤ (l.length : Int)), cond_true, decide_eq_false (by omega : ¬ (l.length : Int) ≤ 200), cond_false, decide_eq_true (by omega), cond_true]
        rfl
      · unfold zj121
        rw [hbits, B_size, decide_eq_true (by omega : (l.length : Int) > 200)]
        cases (decide (0 ≤ a) && decide (a ≤ 5)) <;> rfl
end Go.Proofs.YtemihnclhcobnaaGreatDoor
namespace Go.Proofs.YtemihnclhcobnaaGreatDoor
open Go.Rv
set_option linter.unusedVariables false
variable {β : Type}
theorem bt_eq (b : UInt8) (c : Nat) (hc : c < 256) : ((b.toNat : Int) == (c : Int)) = (b == UInt8.ofNat c) := by
  by_cases h : b = UInt8.ofNat c
  · subst h
    rw [UInt8.toNat_ofNat', Nat.mod_eq_of_lt hc]
    simp
  · rw [beq_eq_false_iff_ne.2 h, beq_eq_false_iff_ne]
    intro e
    apply h
    apply UInt8.toNat_inj.1
    rw [UInt8.toNat_ofNat', Nat.mod_eq_of_lt hc]
    omega
/-- The byte at a place. -/
def at8 (l : List UInt8) (i : Nat) : UInt8 := l.getD i 0
theorem at8_get (l : List UInt8) (i : Nat) (h : i < l.length) : at8 l i = l[i] := by
  simp [at8, List.getD_eq_getElem?_getD, List.getElem?_eq_getElem h]
theorem bt_at8 (l : List UInt8) (i : Nat) (h : i < l.length) : bt (B l) (i : Int) = ((at8 l i).toNat : Int) := by
  rw [B_bt l i h, at8_get l i h]
def is1 (l : List UInt8) (i : Nat) : Bool := at8 l i == 49
def is01 (l : List UInt8) (i : Nat) : Bool := at8 l i == 49 || at8 l i == 48
theorem tabw_step (g : Nat → Bool) (i : Nat) (hi : i < 32) : bits .or .i64 (tabw g i : Int) (shlI .i64 1 (i : Int)) = ((tabw g i ||| 2 ^ i : Nat) : Int) := by
  have hw : tabw g i < 2 ^ 63 := Nat.lt_of_lt_of_le (tabw_lt g i) (Nat.pow_le_pow_right (by decide) (by omega))
  rw [shl_one i (by omega), bOr _ _ hw (Nat.pow_lt_pow_right (by decide) (by omega))]
theorem tabw_yes {g : Nat → Bool} {i : Nat} (h : g i = true) : tabw g (i + 1) = tabw g i ||| 2 ^ i := by simp [tabw, h]
theorem tabw_no {g : Nat → Bool} {i : Nat} (h : g i = false) : tabw g (i + 1) = tabw g i := by simp [tabw, h]

theorem pow_ne : ∀ n, n ≤ 5 → ∀ i, i < n → 2 ^ n ≠ 2 ^ i := by decide

/-- The table of a text of a length that is right. -/
theorem spec_table_inner (N : Nat) (hN : 1048576 < N) (l : List UInt8) (n : Nat) (hn : n ≤ 5) (hl : l.length = 2 ^ n) (k0 : Bool → Int → Int → Option β) (k1 : Int → Int → Int → Int → Option β) :
    zj2 N N (B l) (n : Int) 0 0 0 0 k0 k1 = cond (allTo (is01 l) (2 ^ n)) (k1 (n : Int) (tabw (is1 l) (2 ^ n) : Int) 0 0) (k0 false 0 0) := by
  have hs := size_le hn
  refine loop_all (fun F i => zj2 N F (B l) (n : Int) (tabw (is1 l) i : Int) (i : Int) 0 0 k0 k1) (is01 l) (2 ^ n) _ _ (fun F i hi => ?_) (fun F => ?_) N (by omega)
  · simp only [zj2, zj1, B_size]
    have e49 := bt_eq (at8 l i) 49 (by decide)
    have e48 := bt_eq (at8 l i) 48 (by decide)
    simp only [Int.cast_ofNat_Int] at e49 e48
    rw [decide_eq_true (by omega : (i : Int) < (l.length : Int)), cond_true, gd_true (decide_eq_true (by omega)), gd_true rfl, bt_at8 l i (by omega), e49, e48, w64_succ i (by omega), tabw_step _ i (by omega), gd_true (decide_eq_true (by omega))]
    cases h1 : at8 l i == 49 with
    | true =>
      have hi1 : is1 l i = true := h1
      have hp : is01 l i = true := by rw [is01, h1]; rfl
      rw [cond_true, hp, cond_true, tabw_yes hi1]
    | false =>
      have hi1 : is1 l i = false := h1
      rw [cond_false, tabw_no hi1]
      cases h0 : at8 l i == 48 with
      | true =>
        have hp : is01 l i = true := by rw [is01, h1, h0]; rfl
        rw [hp]
      | false =>
        have hp : is01 l i = false := by rw [is01, h1, h0]; rfl
        rw [hp]
  · simp only [zj2, zj1, B_size]
    rw [decide_eq_false (by omega), cond_false]

theorem tbits_back (l : List UInt8) (m : Nat) (hl : l.length = m) : (tbits (tabw (is1 l) m) m == l) = allTo (is01 l) m := by
  cases h : allTo (is01 l) m with
  | true =>
    rw [beq_iff_eq]
    apply List.ext_getElem
    · rw [tbits_len, hl]
    · intro i h1 h2
      have hi : i < m := by omega
      have hp := allTo_spec h i hi
      simp only [tbits, List.getElem_map, List.getElem_range, tabw_bit]
      rw [decide_eq_true hi, Bool.true_and, ← at8_get l i (by omega)]
      simp only [is01, Bool.or_eq_true] at hp
      rcases hp with hp | hp
      · have e1 : is1 l i = true := hp
        rw [e1, if_pos rfl, eq_of_beq hp]
      · have e := eq_of_beq hp
        have e1 : is1 l i = false := by rw [is1, e]; rfl
        rw [e1, if_neg (by decide), e]
  | false =>
    rw [beq_eq_false_iff_ne]
    intro e
    have : allTo (is01 l) m = true := allTo_of fun i hi => by
      have : at8 l i = if (tabw (is1 l) m).testBit i then 49 else 48 := by
        rw [at8_get l i (by omega)]
        have h2 : l[i]? = (tbits (tabw (is1 l) m) m)[i]? := by rw [e]
        rw [List.getElem?_eq_getElem (by omega : i < l.length), List.getElem?_eq_getElem (by rw [tbits_len]; exact hi)] at h2
        have h3 := Option.some.inj h2
        rw [h3]
        simp [tbits]
      rw [is01, this]
      split <;> rfl
    rw [this] at h
    cases h

theorem Table_both (N : Nat) (hN : 1048576 < N) (l : List UInt8) :
    ∃ (n w : Int) (b : Bool), (∀ K : Int → Int → Bool → Option β, zj5 N (B l) K = K n w b) ∧ (∀ K : Int → Int → Bool → Option β, zj99 N (B l) K = K n w b) := by
  have hshl : ∀ i : Nat, i ≤ 5 → shlI .i64 1 (i : Int) = ((2 ^ i : Nat) : Int) := fun i hi => shl_one i (by omega)
  have stepS : ∀ (K : Int → Int → Bool → Option β) (F i : Nat), i ≤ 5 → l.length ≠ 2 ^ i → zj4 N (F + 1) (B l) (i : Int) 0 0 (fun e0 e1 e2 => K e1 e2 e0) (fun _ _ => K 0 0 false) = zj4 N F (B l) ((i + 1 : Nat) : Int) 0 0 (fun e0 e1 e2 => K e1 e2 e0) (fun _ _ => K 0 0 false) := fun K F i hi h => by
    simp only [zj4, zj3, B_size]
    rw [decide_eq_true (by omega : (i : Int) ≤ 5), cond_true, gd_true (decide_eq_true (by omega)), hshl i hi, bne_iff_ne.2 (by omega), cond_true, w64_succ i (by omega)]
  have stepI : ∀ (K : Int → Int → Bool → Option β) (F i : Nat), i ≤ 5 → l.length ≠ 2 ^ i → zj98 N (F + 1) (i : Int) (B l) 0 0 (fun e0 e1 e2 => K e1 e2 e0) (fun _ _ => K 0 0 false) = zj98 N F ((i + 1 : Nat) : Int) (B l) 0 0 (fun e0 e1 e2 => K e1 e2 e0) (fun _ _ => K 0 0 false) := fun K F i hi h => by
    simp only [zj98, zj97, B_size]
    rw [decide_eq_true (by omega : (i : Int) < 6), cond_true, gd_true (decide_eq_true (by omega)), hshl i hi, beq_eq_false_iff_ne.2 (by omega), cond_false, w64_succ i (by omega)]
  by_cases hex : ∃ n, n ≤ 5 ∧ l.length = 2 ^ n
  · obtain ⟨n, hn, hl⟩ := hex
    have hs := size_le hn
    have hne : ∀ i, i < n → l.length ≠ 2 ^ i := fun i hi => by rw [hl]; exact pow_ne n hn i hi
    have eS : ∀ K : Int → Int → Bool → Option β, zj5 N (B l) K = cond (allTo (is01 l) (2 ^ n)) (K (n : Int) (tabw (is1 l) (2 ^ n) : Int) true) (K 0 0 false) := fun K => by
      unfold zj5
      refine loop_st (fun F i => zj4 N F (B l) (i : Int) 0 0 (fun e0 e1 e2 => K e1 e2 e0) (fun _ _ => K 0 0 false)) n _ (fun F i hi => stepS K F i (by omega) (hne i hi)) (fun F => ?_) N 0 (by omega) (by omega)
      simp only [zj4, zj3, B_size]
      rw [decide_eq_true (by omega : (n : Int) ≤ 5), cond_true, gd_true (decide_eq_true (by omega)), hshl n hn, hl, bne_self_eq_false, cond_false, spec_table_inner N hN l n hn hl]
    have eI : ∀ K : Int → Int → Bool → Option β, zj99 N (B l) K = cond (allTo (is01 l) (2 ^ n)) (K (n : Int) (tabw (is1 l) (2 ^ n) : Int) true) (K 0 0 false) := fun K => by
      unfold zj99
      refine loop_st (fun F i => zj98 N F (i : Int) (B l) 0 0 (fun e0 e1 e2 => K e1 e2 e0) (fun _ _ => K 0 0 false)) n _ (fun F i hi => stepI K F i (by omega) (hne i hi)) (fun F => ?_) N 0 (by omega) (by omega)
      simp only [zj98, zj97, B_size]
      rw [decide_eq_true (by omega : (n : Int) < 6), cond_true, gd_true (decide_eq_true (by omega)), hshl n hn, hl, beq_self_eq_true, cond_true, makeTable_eq N (by omega) n hn _ (is1 l) (fun x k hx => by
        have e49 := bt_eq (at8 l x) 49 (by decide)
        simp only [Int.cast_ofNat_Int] at e49
        unfold zj65
        rw [gd_true (decide_eq_true (by omega)), B_size, gd_true (decide_eq_true (by omega)), bt_at8 l x (by omega), e49]
        rfl), impl_FormatTable_n N n _ (by omega) hn (tabw_lt _ _), B_toList, B_toList, tbits_back l _ hl]
      cases allTo (is01 l) (2 ^ n) <;> rfl
    cases hall : allTo (is01 l) (2 ^ n) with
    | true => exact ⟨_, _, true, fun K => by rw [eS, hall, cond_true], fun K => by rw [eI, hall, cond_true]⟩
    | false => exact ⟨0, 0, false, fun K => by rw [eS, hall, cond_false], fun K => by rw [eI, hall, cond_false]⟩
  · have hne : ∀ i, i ≤ 5 → l.length ≠ 2 ^ i := fun i hi e => hex ⟨i, hi, e⟩
    refine ⟨0, 0, false, fun K => ?_, fun K => ?_⟩
    · unfold zj5
      refine loop_st (fun F i => zj4 N F (B l) (i : Int) 0 0 (fun e0 e1 e2 => K e1 e2 e0) (fun _ _ => K 0 0 false)) 6 _ (fun F i hi => stepS K F i (by omega) (hne i (by omega))) (fun F => ?_) N 0 (by omega) (by omega)
      simp only [zj4, zj3, B_size]
      rw [decide_eq_false (by decide), cond_false]
    · unfold zj99
      refine loop_st (fun F i => zj98 N F (i : Int) (B l) 0 0 (fun e0 e1 e2 => K e1 e2 e0) (fun _ _ => K 0 0 false)) 6 _ (fun F i hi => stepI K F i (by omega) (hne i (by omega))) (fun F => ?_) N 0 (by omega) (by omega)
      simp only [zj98, zj97, B_size]
      rw [decide_eq_false (by decide), cond_false]
end Go.Proofs.YtemihnclhcobnaaGreatDoor
namespace Go.Proofs.YtemihnclhcobnaaGreatDoor
open Go.Rv
set_option linter.unusedVariables false
variable {β : Type}
/-- Whether an odd number of the inputs below a mask are told one. -/
def par (w m : Nat) : Nat → Bool
  | 0 => false
  | x + 1 => xor (par w m x) ((x &&& m == x) && w.testBit x)
def cnt (w m : Nat) : Nat → Nat
  | 0 => 0
  | x + 1 => cnt w m x + if (x &&& m == x) && w.testBit x then 1 else 0
theorem cnt_le (w m : Nat) : ∀ x, cnt w m x ≤ x
  | 0 => Nat.le_refl _
  | x + 1 => by
    have := cnt_le w m x
    simp only [cnt]
    split <;> omega
theorem cnt_par (w m : Nat) : ∀ x, cnt w m x % 2 = (par w m x).toNat
  | 0 => rfl
  | x + 1 => by
    have := cnt_par w m x
    simp only [cnt, par]
    generalize cnt w m x = c at this ⊢
    generalize par w m x = p at this ⊢
    cases (x &&& m == x) && w.testBit x with
    | true => rw [if_pos rfl]; cases p <;> simp only [Bool.toNat_true, Bool.toNat_false, Bool.xor_true, Bool.not_true, Bool.not_false] at this ⊢ <;> omega
    | false => rw [if_neg (by decide), Bool.xor_false]; exact this
theorem par_more (w m : Nat) : ∀ d, par w m (m + 1 + d) = par w m (m + 1)
  | 0 => rfl
  | d + 1 => by
    rw [show m + 1 + (d + 1) = (m + 1 + d) + 1 by omega]
    simp only [par]
    have h : ((m + 1 + d) &&& m == m + 1 + d) = false := by
      rw [beq_eq_false_iff_ne]
      intro e
      have : (m + 1 + d) &&& m ≤ m := Nat.and_le_right
      omega
    have := par_more w m d
    simp only [par] at this
    rw [h, this]
    simp
def anfw (w n : Nat) : Nat := tabw (fun m => par w m (2 ^ n)) (2 ^ n)
theorem par_top (w m n : Nat) (h : m < 2 ^ n) : par w m (2 ^ n) = par w m (m + 1) := by
  rw [show 2 ^ n = m + 1 + (2 ^ n - (m + 1)) by omega, par_more]
theorem and_smI (x m : Nat) (hx : x < 32) (hm : m < 32) : (bits .and .i64 (x : Int) (m : Int) == (x : Int)) = (x &&& m == x) := and_sm x hx m hm

theorem spec_l11Anf_n (N : Nat) (hN : 1048576 < N) (n w : Nat) (hn : n ≤ 5) (hw : w < 4294967296) (K : Int → Option β) : zj17 N (n : Int) (w : Int) K = K (anfw w n : Int) := by
  have hs := size_le hn
  have hz : (0 : Int) ≤ ((2 ^ n : Nat) : Int) := Int.natCast_nonneg _
  unfold zj17
  refine loop_st (fun F m => zj16 N F (tabw (fun m => par w m (2 ^ n)) m : Int) (m : Int) (n : Int) (w : Int) fun e => K e) (2 ^ n) _ (fun F m hm => ?_) (fun F => ?_) N 0 (by omega) (by omega)
  · simp only [zj16, zj15]
    rw [gd_true (decide_eq_true (by omega)), shl_one n (by omega), decide_eq_true (by omega : (m : Int) < ((2 ^ n : Nat) : Int)), cond_true]
    have inner := fun (k0 : Int → Int → Int → Int → Int → Option β) (v0 : Int) => loop_st (fun F x => zj14 N F v0 (m : Int) (cnt w m x : Int) (x : Int) (n : Int) (w : Int) k0) (m + 1) (k0 v0 (m : Int) (cnt w m (m + 1) : Int) (n : Int) (w : Int)) (fun F x hx => by
      simp only [zj14, zj13]
      have hc := cnt_le w m x
      rw [decide_eq_true (by omega : (x : Int) ≤ (m : Int)), cond_true, and_smI x m (by omega) (by omega), w64_succ x (by omega), bit_w w x (by omega)]
      simp only [cnt]
      cases x &&& m == x with
      | false => simp
      | true =>
        rw [cond_true, gd_true (decide_eq_true (by omega)), Bool.true_and, w64_id (by have := bw_le w x; omega) (by have := bw_le w x; omega)]
        unfold bw
        cases w.testBit x <;> rfl) (fun F => by
      simp only [zj14, zj13]
      rw [decide_eq_false (by omega), cond_false]) N 0 (by omega) (by omega)
    refine (inner _ _).trans ?_
    have hc := cnt_par w m (m + 1)
    rw [← par_top w m n hm] at hc
    have hrem : remI (cnt w m (m + 1) : Int) 2 = ((par w m (2 ^ n)).toNat : Int) := by
      rw [← hc]; rfl
    rw [hrem, gd_true (decide_eq_true (by omega)), w64_succ m (by omega)]
    have hb : tabw (fun m => par w m (2 ^ n)) m < 2 ^ 63 := Nat.lt_of_lt_of_le (tabw_lt _ m) (Nat.pow_le_pow_right (by decide) (by omega))
    cases hp : par w m (2 ^ n) with
    | true =>
      rw [tabw_yes (g := fun m => par w m (2 ^ n)) hp]
      have e1 : ((true.toNat : Nat) : Int) = 1 := rfl
      rw [e1, tabw_step _ m (by omega)]
    | false =>
      rw [tabw_no (g := fun m => par w m (2 ^ n)) hp]
      have h0 : shlI .i64 ((false.toNat : Nat) : Int) (m : Int) = ((0 : Nat) : Int) := by
        have := shl_nat 0 m (by omega) (by omega)
        rw [Nat.zero_mul] at this
        exact this
      rw [h0, bOr _ _ hb (by decide), Nat.or_zero]
  · simp only [zj16, zj15]
    rw [gd_true (decide_eq_true (by omega)), shl_one n (by omega), decide_eq_false (by omega : ¬ ((2 ^ n : Nat) : Int) < ((2 ^ n : Nat) : Int)), cond_false]
    rfl

theorem andNot_smI (x m : Nat) (hx : x < 32) (hm : m < 32) : (bits .andNot .i64 (x : Int) (m : Int) == 0) = (x &&& m == x) := andNot_sm x hx m hm
theorem xor_bits : ∀ a b : Bool, bits .xor .i64 (a.toNat : Int) (b.toNat : Int) = ((xor a b).toNat : Int) := by decide
theorem impl_anf_n (N : Nat) (hN : 1048576 < N) (n w : Nat) (hn : n ≤ 5) (hw : w < 4294967296) (K : Int → Int → Option β) : zj107 N (n : Int) (w : Int) K = K (n : Int) (anfw w n : Int) := by
  have hs := size_le hn
  have hz : (0 : Int) ≤ ((2 ^ n : Nat) : Int) := Int.natCast_nonneg _
  unfold zj107
  rw [makeTable_eq N (by omega) n hn _ (fun m => par w m (2 ^ n)) (fun m k hm => ?_)]
  · rfl
  · unfold zj70
    rw [impl_Table_size_eq N n _ hn]
    have main := loop_st (fun F x => zj69 N F (m : Int) (n : Int) (w : Int) ((par w m x).toNat : Int) ((2 ^ n : Nat) : Int) (x : Int) fun e => k (e == 1)) (2 ^ n) (k (par w m (2 ^ n))) (fun F x hx => by
      simp only [zj69, zj68]
      rw [decide_eq_true (by omega : (x : Int) < ((2 ^ n : Nat) : Int)), cond_true, andNot_smI x m (by omega) (by omega), impl_Table_at_eq N w x _ hw, w64_succ x (by omega)]
      have e : (bw w x : Int) = ((w.testBit x).toNat : Int) := by unfold bw; cases w.testBit x <;> rfl
      rw [e, xor_bits]
      simp only [par]
      cases x &&& m == x <;> simp) (fun F => by
      simp only [zj69, zj68]
      rw [decide_eq_false (by omega), cond_false]
      cases par w m (2 ^ n) <;> rfl) N 0 (by omega) (by omega)
    exact main
end Go.Proofs.YtemihnclhcobnaaGreatDoor
namespace Go.Proofs.YtemihnclhcobnaaGreatDoor
open Go.Rv
set_option linter.unusedVariables false
variable {β : Type}
theorem join_snoc (sep y : List UInt8) : ∀ l : List (List UInt8), Lib.join (l ++ [y]) sep = if l = [] then y else Lib.join l sep ++ sep ++ y
  | [] => by rw [if_pos rfl, List.nil_append, Lib.join_cons]; simp [Lib.joinTail]
  | x :: l => by
    rw [if_neg (by simp), List.cons_append, Lib.join_cons, Lib.join_cons]
    simp [Lib.joinTail]
theorem joinB_B (l : List (List UInt8)) (s : List UInt8) : joinB (l.map B) (B s) = B (Lib.join l s) := by
  unfold joinB B
  rw [List.map_map]
  have : ((fun x : ByteArray => x.data.toList) ∘ fun l : List UInt8 => (⟨l.toArray⟩ : ByteArray)) = id := by
    funext l
    simp
  rw [this]
  simp
theorem join_len_le (c : UInt8) (b : Nat) : ∀ l : List (List UInt8), (∀ x ∈ l, x.length ≤ b) → (Lib.join l [c]).length ≤ (b + 1) * l.length
  | [], _ => by simp [Lib.join]
  | x :: l, h => by
    rw [Lib.join_cons, List.length_append, Lib.joinTail_length]
    have h1 := h x (by simp)
    have h2 : ∀ l : List (List UInt8), (∀ x ∈ l, x.length ≤ b) → Lib.lens l ≤ b * l.length := by
      intro l
      induction l with
      | nil => intro _; simp [Lib.lens]
      | cons y l ih =>
        intro h
        have e1 := h y (by simp)
        have e2 := ih fun z hz => h z (by simp [hz])
        simp only [Lib.lens, List.map_cons, List.sum_cons, List.length_cons] at e2 ⊢
        rw [Nat.mul_add, Nat.mul_one]
        omega
    have h3 := h2 l fun z hz => h z (by simp [hz])
    simp only [List.length_cons, List.length_nil]
    have e3 : (b + 1) * (l.length + 1) = b * l.length + l.length + b + 1 := by rw [Nat.add_mul, Nat.one_mul, Nat.mul_add, Nat.mul_one]; omega
    rw [e3]
    omega

/-- The masks that are such, as terms. -/
def msl (p : Nat → Bool) : Nat → List (Nat × Nat)
  | 0 => []
  | m + 1 => msl p m ++ (if p m then [(m, m)] else [])
theorem msl_len (p : Nat → Bool) : ∀ m, (msl p m).length ≤ m
  | 0 => Nat.le_refl _
  | m + 1 => by
    have := msl_len p m
    simp only [msl, List.length_append]
    split <;> simp <;> omega
theorem msl_mem (p : Nat → Bool) : ∀ m t, t ∈ msl p m → t.1 < m ∧ t.2 = t.1
  | 0, t, h => by simp [msl] at h
  | m + 1, t, h => by
    simp only [msl, List.mem_append] at h
    rcases h with h | h
    · have := msl_mem p m t h; omega
    · split at h
      · simp only [List.mem_singleton] at h; subst h; exact ⟨by simp, rfl⟩
      · cases h
def wordsT (n : Nat) (o : List (Nat × Nat)) : List (List UInt8) := o.map fun t => ftb n t.1 t.2
/-- The text of masks. -/
def anfT (n : Nat) (p : Nat → Bool) (m : Nat) : List UInt8 := Lib.join (wordsT n (msl p m)) [43]
theorem ftb_pos : ∀ n, n ≤ 5 → ∀ m, m < 2 ^ n → (ftb n m m).length ≠ 0 ∧ (ftb n m m).length ≤ 5 := by decide +kernel
theorem anfT_step (n : Nat) (p : Nat → Bool) (m : Nat) : anfT n p (m + 1) = if p m then (if msl p m = [] then ftb n m m else anfT n p m ++ [43] ++ ftb n m m) else anfT n p m := by
  unfold anfT
  cases hp : p m with
  | false => simp [msl, hp]
  | true =>
    simp only [msl, hp, if_true, wordsT, List.map_append, List.map_cons, List.map_nil]
    rw [join_snoc]
    cases msl p m <;> simp
theorem anfT_nil (n : Nat) (hn : n ≤ 5) (p : Nat → Bool) : ∀ m, m ≤ 2 ^ n → ((anfT n p m = []) ↔ msl p m = [])
  | 0, _ => by simp [anfT, msl, wordsT, Lib.join]
  | m + 1, h => by
    have ih := anfT_nil n hn p m (by omega)
    have hf := ftb_pos n hn m (by omega)
    rw [anfT_step]
    simp only [msl]
    cases hp : p m with
    | false => simpa using ih
    | true =>
      simp only [if_true]
      have : ftb n m m ≠ [] := fun e => hf.1 (by rw [e]; rfl)
      split <;> simp [this]
theorem anfT_len (n : Nat) (hn : n ≤ 5) (p : Nat → Bool) (m : Nat) (hm : m ≤ 2 ^ n) : (anfT n p m).length ≤ 200 := by
  have hs := size_le hn
  have h1 := msl_len p m
  have h2 : ∀ x ∈ wordsT n (msl p m), x.length ≤ 5 := fun x hx => by
    obtain ⟨t, ht, rfl⟩ := List.mem_map.1 hx
    have := msl_mem p m t ht
    rw [this.2]
    exact (ftb_pos n hn t.1 (by omega)).2
  have := join_len_le 43 5 _ h2
  rw [wordsT, List.length_map] at this
  unfold anfT wordsT
  omega
/-- The text of a table's sum of products. -/
def fanf (w n : Nat) : List UInt8 := cond (anfT n (anfw w n).testBit (2 ^ n) == []) [48] (anfT n (anfw w n).testBit (2 ^ n))

theorem spec_FormatAnf_n (N : Nat) (hN : 1048576 < N) (n w : Nat) (hn : n ≤ 5) (hw : w < 2 ^ 2 ^ n) (K : ByteArray → Option β) : zj21 N (n : Int) (w : Int) K = K (B (fanf w n)) := by
  have hs := size_le hn
  have hz : (0 : Int) ≤ ((2 ^ n : Nat) : Int) := Int.natCast_nonneg _
  have hw' := w_small hn hw
  have ha : anfw w n < 2 ^ 2 ^ n := tabw_lt _ _
  have ha' := w_small hn ha
  have he : ByteArray.empty.toList = ([] : List UInt8) := B_toList []
  unfold zj21
  rw [spec_IsTable_eq, isTn hn hw, Bool.not_true, cond_false, spec_l11Anf_n N hN n w hn hw']
  refine loop_st (fun F m => zj20 N F (B (anfT n (anfw w n).testBit m)) (anfw w n : Int) (m : Int) (n : Int) (w : Int) fun e => cond (e.toList == ByteArray.empty.toList) (K (strOf [48])) (K e)) (2 ^ n) _ (fun F m hm => ?_) (fun F => ?_) N 0 (by omega) (by omega)
  · simp only [zj20, zj19]
    have hl := anfT_len n hn (anfw w n).testBit m (by omega)
    have hf := ftb_pos n hn m hm
    have hbit : (bits .and .i64 (shrI .i64 (anfw w n : Int) (m : Int)) 1 == 0) = !(anfw w n).testBit m := by
      rw [bit_w _ m (by omega), bw_eq0]
    rw [gd_true (decide_eq_true (by omega)), shl_one n (by omega), decide_eq_true (by omega : (m : Int) < ((2 ^ n : Nat) : Int)), cond_true, gd_true (decide_eq_true (by omega)), hbit, w64_succ m (by omega), anfT_step, B_toList, he, show strOf [43] = B [43] from rfl, B_app]
    cases hp : (anfw w n).testBit m with
    | false => rfl
    | true =>
      simp only [Bool.not_true, cond_false, if_true]
      cases hm0 : anfT n (anfw w n).testBit m == [] with
      | true =>
        have h0 := eq_of_beq hm0
        rw [Bool.not_true, cond_false, spec_FormatTerm_n N hN n m m hn (by omega) (by omega), B_app, B_size, B_size, gd_true (decide_eq_true (by omega)), if_pos ((anfT_nil n hn _ m (by omega)).1 h0), h0]
        rfl
      | false =>
        have h0 : anfT n (anfw w n).testBit m ≠ [] := by intro e; rw [e] at hm0; cases hm0
        rw [Bool.not_false, cond_true, B_size, B_size, gd_true (decide_eq_true (by simp; omega)), spec_FormatTerm_n N hN n m m hn (by omega) (by omega), B_app, B_size, B_size, gd_true (decide_eq_true (by simp; omega)), if_neg fun e => h0 ((anfT_nil n hn _ m (by omega)).2 e)]
  · simp only [zj20, zj19]
    rw [gd_true (decide_eq_true (by omega)), shl_one n (by omega), decide_eq_false (by omega : ¬ ((2 ^ n : Nat) : Int) < ((2 ^ n : Nat) : Int)), cond_false, B_toList, he]
    unfold fanf
    cases anfT n (anfw w n).testBit (2 ^ n) == [] <;> rfl

theorem wordsT_len (n : Nat) (o : List (Nat × Nat)) : (wordsT n o).length = o.length := by simp [wordsT]
theorem impl_joinTerms_n (N : Nat) (hN : 1048576 < N) (n : Nat) (hn : n ≤ 5) (o : List (Nat × Nat)) (ho : o.length ≤ 1000) (hg : ∀ t ∈ o, t.1 < 32 ∧ t.2 < 32 ∧ (ftb n t.1 t.2).length ≤ 10) (c : UInt8) (K : ByteArray → Option β) : zj110 N (n : Int) (tl o) (B [c]) K = K (B (Lib.join (wordsT n o) [c])) := by
  unfold zj110
  rw [gd_true (decide_eq_true (by omega)), gd_true (decide_eq_true (by omega)), tl_len, gd_true (decide_eq_true (by omega)), Int.toNat_natCast]
  have key := loop_st (fun F i => zj109 N F (n : Int) (B [c]) (tl o) (o.length : Int) (i : Int) (((wordsT n o).map B).take i ++ List.replicate (o.length - i) ByteArray.empty) fun e0 e1 => strings_Join N e1 e0 fun r6 => K r6) o.length (K (B (Lib.join (wordsT n o) [c]))) (fun F i hi => ?_) (fun F => ?_) N 0 (by omega) (by omega)
  · simpa using key
  · simp only [zj109, zj108]
    obtain ⟨h1, h2, h3⟩ := hg o[i] (List.getElem_mem hi)
    have htk : (((wordsT n o).map B).take i).length = i := by rw [List.length_take, List.length_map, wordsT_len]; omega
    rw [decide_eq_true (by omega : (i : Int) < (o.length : Int)), cond_true, gd_true (decide_eq_true (by omega)), tl_len, gd_true (decide_eq_true (by omega)), rd_tl o i hi, impl_FormatTerm_n N hN n _ _ hn h1 h2, gd_true (decide_eq_true (by omega)), gd_true (decide_eq_true (by rw [List.length_append, htk, List.length_replicate]; omega)), w64_succ i (by omega), show o.length - i = (o.length - (i + 1)) + 1 by omega, List.replicate_succ]
    have e := wr_mid (((wordsT n o).map B).take i) ByteArray.empty (B (ftb n o[i].1 o[i].2)) (List.replicate (o.length - (i + 1)) ByteArray.empty)
    rw [htk] at e
    rw [e]
    have e2 : ((wordsT n o).map B).take (i + 1) = ((wordsT n o).map B).take i ++ [B (ftb n o[i].1 o[i].2)] := by
      rw [List.take_add_one, List.getElem?_map]
      simp [wordsT, List.getElem?_eq_getElem hi]
    rw [e2]
    simp
  · simp only [zj109, zj108]
    rw [decide_eq_false (by omega : ¬ (o.length : Int) < (o.length : Int)), cond_false, Nat.sub_self, List.replicate_zero, List.append_nil, List.take_of_length_le (by rw [List.length_map, wordsT_len]; exact Nat.le_refl _)]
    unfold strings_Join
    have hb : ∀ x ∈ wordsT n o, x.length ≤ 10 := fun x hx => by
      obtain ⟨t, ht, rfl⟩ := List.mem_map.1 hx
      exact (hg t ht).2.2
    have hj := join_len_le c 10 _ hb
    rw [wordsT_len] at hj
    rw [joinB_B, gd_true (decide_eq_true (by rw [List.length_map, wordsT_len]; omega)), gd_true (decide_eq_true (by rw [B_size]; omega))]

theorem impl_FormatAnf_n (N : Nat) (hN : 1048576 < N) (n w : Nat) (hn : n ≤ 5) (hw : w < 2 ^ 2 ^ n) (K : ByteArray → Option β) : zj113 N (n : Int) (w : Int) K = K (B (fanf w n)) := by
  have hs := size_le hn
  have hz : (0 : Int) ≤ ((2 ^ n : Nat) : Int) := Int.natCast_nonneg _
  have hw' := w_small hn hw
  have ha : anfw w n < 2 ^ 2 ^ n := tabw_lt _ _
  have ha' := w_small hn ha
  unfold zj113
  rw [impl_IsTable_eq N _ _ (by omega), isTn hn hw, Bool.not_true, cond_false, impl_anf_n N hN n w hn hw', impl_Table_size_eq N n _ hn]
  refine loop_st (fun F m => zj112 N F ((2 ^ n : Nat) : Int) (m : Int) (n : Int) (w : Int) (n : Int) (anfw w n : Int) (tl (msl (anfw w n).testBit m)) fun e0 e1 e2 => cond ((e2.length : Int) == 0) (K (strOf [48])) (zj110 N e0 e2 (strOf [43]) fun r9 => K r9)) (2 ^ n) _ (fun F m hm => ?_) (fun F => ?_) N 0 (by omega) (by omega)
  · simp only [zj112, zj111]
    have hl := msl_len (anfw w n).testBit m
    rw [decide_eq_true (by omega : (m : Int) < ((2 ^ n : Nat) : Int)), cond_true, impl_Table_at_eq N _ m _ ha', bw_eq1, w64_succ m (by omega)]
    simp only [msl]
    cases (anfw w n).testBit m with
    | false => simp
    | true =>
      rw [cond_true, gd_true (decide_eq_true (by simp [tl_len]; omega)), if_pos rfl, tl_snoc]
      rfl
  · simp only [zj112, zj111]
    have hl := msl_len (anfw w n).testBit (2 ^ n)
    rw [decide_eq_false (by omega : ¬ ((2 ^ n : Nat) : Int) < ((2 ^ n : Nat) : Int)), cond_false, tl_len]
    unfold fanf
    have hni := anfT_nil n hn (anfw w n).testBit (2 ^ n) (Nat.le_refl _)
    by_cases h0 : msl (anfw w n).testBit (2 ^ n) = []
    · rw [h0, hni.2 h0]; rfl
    · have h1 : anfT n (anfw w n).testBit (2 ^ n) ≠ [] := fun e => h0 (hni.1 e)
      have h2 : 0 < (msl (anfw w n).testBit (2 ^ n)).length := List.length_pos_iff.2 h0
      rw [beq_eq_false_iff_ne.2 (by omega), cond_false, beq_eq_false_iff_ne.2 h1, cond_false]
      exact impl_joinTerms_n N hN n hn _ (by omega) (fun t ht => by
        have := msl_mem _ _ t ht
        have hf := ftb_pos n hn t.1 (by omega)
        rw [this.2]
        omega) 43 K
end Go.Proofs.YtemihnclhcobnaaGreatDoor
namespace Go.Proofs.YtemihnclhcobnaaGreatDoor
open Go.Rv
set_option linter.unusedVariables false
variable {β : Type}
/-! ### No negation in the text of a table -/
theorem ftb_no33 : ∀ n, n ≤ 5 → ∀ m, m < 2 ^ n → (33 : UInt8) ∉ ftb n m m := by decide +kernel
theorem ftb_33' : ∀ n, n ≤ 5 → ∀ m, m < 32 → ∀ v, v < 32 → (!okT n m v || (m == v || (ftb n m v).contains 33)) = true := by decide +kernel
theorem ftb_33 (n : Nat) (hn : n ≤ 5) (m : Nat) (hm : m < 32) (v : Nat) (hv : v < 32) (h : okT n m v = true) (hne : m ≠ v) : (33 : UInt8) ∈ ftb n m v := by
  have := ftb_33' n hn m hm v hv
  rw [h, beq_eq_false_iff_ne.2 hne, Bool.not_true, Bool.false_or, Bool.false_or] at this
  exact List.contains_iff_mem.1 this
theorem anfw_lt (w n : Nat) : anfw w n < 2 ^ 2 ^ n := tabw_lt _ _
theorem join_mem (c b : UInt8) : ∀ l : List (List UInt8), b ∈ Lib.join l [c] → b = c ∨ ∃ x ∈ l, b ∈ x
  | [], h => by simp [Lib.join] at h
  | x :: l, h => by
    rw [Lib.join_cons, List.mem_append] at h
    rcases h with h | h
    · exact .inr ⟨x, by simp, h⟩
    · simp only [Lib.joinTail, List.mem_flatten, List.mem_map] at h
      obtain ⟨y, ⟨z, hz, rfl⟩, hb⟩ := h
      rcases List.mem_append.1 hb with hb | hb
      · exact .inl (by simpa using hb)
      · exact .inr ⟨z, by simp [hz], hb⟩
theorem fanf_no33 (w n : Nat) (hn : n ≤ 5) : (33 : UInt8) ∉ fanf w n := by
  intro h
  unfold fanf at h
  cases h0 : anfT n (anfw w n).testBit (2 ^ n) == [] with
  | true => rw [h0, cond_true] at h; revert h; decide
  | false =>
    rw [h0, cond_false] at h
    rcases join_mem 43 33 _ h with e | ⟨x, hx, hb⟩
    · revert e; decide
    · obtain ⟨t, ht, rfl⟩ := List.mem_map.1 hx
      have := msl_mem _ _ t ht
      rw [this.2] at hb
      exact ftb_no33 n hn t.1 (by omega) hb
theorem spl_mem (c b : UInt8) : ∀ (l acc : List UInt8), ∀ p ∈ spl c acc l, b ∈ p → b ∈ acc ∨ b ∈ l
  | [], acc, p, hp, hb => by simp only [spl, List.mem_singleton] at hp; subst hp; exact .inl hb
  | d :: l, acc, p, hp, hb => by
    unfold spl at hp
    split at hp
    · rcases List.mem_cons.1 hp with rfl | hp
      · exact .inl hb
      · rcases spl_mem c b l [] p hp hb with h | h
        · cases h
        · exact .inr (by simp [h])
    · rcases spl_mem c b l (acc ++ [d]) p hp hb with h | h
      · rcases List.mem_append.1 h with h | h
        · exact .inl h
        · simp only [List.mem_singleton] at h; exact .inr (by simp [h])
      · exact .inr (by simp [h])
theorem ptm_33 (n : Nat) (hn : n ≤ 5) (p : List UInt8) (t : Nat × Nat) (h : ptm n p = some t) (hne : t.1 ≠ t.2) : (33 : UInt8) ∈ p := by
  obtain ⟨h1, h2, h3⟩ := pt_ok hn h
  have := ftb_33 n hn t.1 h2 t.2 h3 h1 hne
  unfold ptm at h
  split at h
  · cases h; exact absurd rfl hne
  · split at h
    · cases h
    · split at h
      · rename_i e; cases h; rw [e] at this; exact this
      · cases h

/-! ### What is read -/
def runA (f : List UInt8 → Option Nat) : List (List UInt8) → Nat → Option Nat
  | [], w => some w
  | p :: ps, w => match f p with
    | some m => runA f ps (w ||| 2 ^ m)
    | none => none
def runAK (o : Option Nat) (k1 : Nat → Option β) (k0 : Option β) : Option β := match o with
  | some w => k1 w
  | none => k0
def qs (n : Nat) (p : List UInt8) : Option Nat := match ptm n p with
  | some t => if t.1 = t.2 then some t.1 else none
  | none => none
def qi (n : Nat) (p : List UInt8) : Option Nat := match ptm n p with
  | some t => some t.1
  | none => none
theorem run_qi_lt (n : Nat) (hn : n ≤ 5) : ∀ (ps : List (List UInt8)) (w w' : Nat), runA (qi n) ps w = some w' → w < 2 ^ 2 ^ n → w' < 2 ^ 2 ^ n
  | [], w, w', h, hw => by cases h; exact hw
  | p :: ps, w, w', h, hw => by
    unfold runA qi at h
    cases hp : ptm n p with
    | none => rw [hp] at h; cases h
    | some t =>
      rw [hp] at h
      have hk := (pt_ok hn hp).1
      simp only [okT, Bool.and_eq_true, decide_eq_true_eq] at hk
      exact run_qi_lt n hn ps _ w' h (Nat.or_lt_two_pow hw (Nat.pow_lt_pow_right (by decide) hk.1))
theorem run_differ (n : Nat) (hn : n ≤ 5) : ∀ (ps : List (List UInt8)) (w : Nat), runA (qs n) ps w = runA (qi n) ps w ∨ (runA (qs n) ps w = none ∧ ∃ p ∈ ps, (33 : UInt8) ∈ p)
  | [], w => .inl rfl
  | p :: ps, w => by
    unfold runA qs qi
    cases hp : ptm n p with
    | none => exact .inl rfl
    | some t =>
      dsimp only
      by_cases h : t.1 = t.2
      · rw [if_pos h]
        dsimp only
        rcases run_differ n hn ps (w ||| 2 ^ t.1) with h | ⟨h1, q, hq, hb⟩
        · exact .inl h
        · exact .inr ⟨h1, q, by simp [hq], hb⟩
      · rw [if_neg h]
        exact .inr ⟨rfl, p, by simp, ptm_33 n hn p t hp h⟩

theorem or_step (w m : Nat) (hw : w < 4294967296) (hm : m < 32) : bits .or .i64 (w : Int) (shlI .i64 1 (m : Int)) = ((w ||| 2 ^ m : Nat) : Int) ∧ w ||| 2 ^ m < 4294967296 := by
  have h2 : 2 ^ m < 2 ^ 32 := Nat.pow_lt_pow_right (by decide) hm
  exact ⟨by rw [shl_one m (by omega), bOr _ _ (by omega) (by omega)], Nat.or_lt_two_pow (n := 32) hw h2⟩

theorem spec_anf_loop (N : Nat) (hN : 1048576 < N) (n : Nat) (hn : n ≤ 5) (l : List UInt8) (hl : l.length ≤ 200) (h48 : (l == [48]) = false)
    (k0 : Bool → Int → Int → Option β) (k1 : Int → ByteArray → Int → Int → Int → Option β) : ∀ (rest pre acc : List UInt8) (F w : Nat), pre ++ rest = l → rest.length + 1 < F → acc.length ≤ pre.length → w < 4294967296 →
    zj23 N F (n : Int) (B l) (w : Int) (B acc) (pre.length : Int) 0 0 k0 k1 = runAK (runA (qs n) (spl 43 acc rest) w) (fun w => k1 (n : Int) (B l) (w : Int) 0 0) (k0 false 0 0) := by
  have hne48 : ((B l).toList == (strOf [48]).toList) = false := by rw [B_toList, B_strOf, B_toList]; exact h48
  have term : ∀ (acc : List UInt8) (hacc : acc.length ≤ 1000) (w : Nat) (hw : w < 4294967296) (R : Int → Option β) (Z : Option β), (zj12 N (n : Int) (B acc) fun r6 r7 r8 => cond (!r8) Z (cond (r6 != r7) Z (gd (decide (0 ≤ r6)) (R (bits .or .i64 (w : Int) (shlI .i64 1 r6)))))) = match qs n acc with | some m => R ((w ||| 2 ^ m : Nat) : Int) | none => Z := by
    intro acc hacc w hw R Z
    rw [spec_ParseTerm_n N hN n hn acc hacc]
    unfold qs
    cases hp : ptm n acc with
    | none => rfl
    | some t =>
      have ht := (pt_ok hn hp).2
      simp only [ptK, Bool.not_true, cond_false]
      by_cases h : t.1 = t.2
      · rw [if_pos h, ← h, bne_self_eq_false, cond_false, gd_true (decide_eq_true (by omega)), (or_step w t.1 hw ht.1).1]
      · rw [if_neg h, bne_iff_ne.2 (by omega), cond_true]
  have qlt : ∀ (acc : List UInt8) (m : Nat), qs n acc = some m → m < 32 := by
    intro acc m h
    unfold qs at h
    cases hp : ptm n acc with
    | none => rw [hp] at h; cases h
    | some t =>
      rw [hp] at h
      dsimp only at h
      split at h
      · cases h; exact (pt_ok hn hp).2.1
      · cases h
  intro rest
  induction rest with
  | nil =>
    intro pre acc F w hp hF hacc hw
    obtain ⟨G, rfl⟩ : ∃ G, F = G + 1 + 1 := ⟨F - 2, by simp at hF; omega⟩
    have hlen : l.length = pre.length := by rw [← hp]; simp
    rw [show zj23 (β := β) N (G + 1 + 1) = fun v0 v1 v2 v3 v4 v5 v6 k0 k1 => zj22 N v0 v1 v2 v3 v4 v5 v6 (fun v0 v1 v2 v3 v4 v5 v6 => zj23 N (G + 1) v0 v1 v2 v3 v4 v5 v6 k0 k1) k0 k1 from rfl]
    simp only [zj22, B_size, hne48]
    rw [decide_eq_true (by omega : (pre.length : Int) ≤ (l.length : Int)), cond_true, Bool.not_false, cond_true, decide_eq_false (by omega : ¬ (pre.length : Int) < (l.length : Int)), cond_false, term acc (by omega) w hw (fun v => zj23 N (G + 1) (n : Int) (B l) v ByteArray.empty (w64 ((pre.length : Int) + 1)) 0 0 k0 k1) (k0 false 0 0)]
    simp only [spl, runA]
    cases hq : qs n acc with
    | none => rfl
    | some m =>
      rw [w64_succ _ (by omega)]
      simp only [zj23, zj22, B_size]
      rw [decide_eq_false (by omega), cond_false]
      rfl
  | cons b rest ih =>
    intro pre acc F w hp hF hacc hw
    simp only [List.length_cons] at hF
    obtain ⟨G, rfl⟩ : ∃ G, F = G + 1 := ⟨F - 1, by omega⟩
    have hlen : l.length = pre.length + (rest.length + 1) := by rw [← hp]; simp
    have hbt : bt (B l) (pre.length : Int) = (b.toNat : Int) := by rw [← hp]; exact bt_mid pre rest b
    have next := fun acc w h1 h2 => ih (pre ++ [b]) acc G w (by rw [← hp]; simp) (by omega) h1 h2
    simp only [List.length_append, List.length_cons, List.length_nil, Nat.zero_add] at next
    have hex : (l.take (pre.length + 1)).drop pre.length = [b] := by
      rw [← hp, List.drop_take]
      simp
    simp only [zj23, zj22, B_size, hbt, hne48]
    rw [decide_eq_true (by omega : (pre.length : Int) ≤ (l.length : Int)), cond_true, Bool.not_false, cond_true, decide_eq_true (by omega : (pre.length : Int) < (l.length : Int)), cond_true, gd_true (decide_eq_true (by omega)), gd_true rfl, w64_succ _ (by omega), Int.toNat_natCast, Int.toNat_natCast, B_ext, hex]
    by_cases h43 : b = 43
    · subst h43
      rw [show ((((43 : UInt8).toNat : Nat) : Int) != 43) = false from rfl, cond_false, term acc (by omega) w hw (fun v => zj23 N G (n : Int) (B l) v ByteArray.empty ((pre.length + 1 : Nat) : Int) 0 0 k0 k1) (k0 false 0 0)]
      simp only [spl, if_true, runA]
      cases hq : qs n acc with
      | none => rfl
      | some m => exact next [] (w ||| 2 ^ m) (by simp) (or_step w m hw (qlt acc m hq)).2
    · have hne : ((b.toNat : Int) != 43) = true := by
        rw [bne_iff_ne]
        intro e
        apply h43
        apply UInt8.toNat_inj.1
        show b.toNat = 43
        omega
      rw [hne, cond_true, gd_true (decide_eq_true (by omega)), gd_true (decide_eq_true (by omega)), gd_true (decide_eq_true (by omega)), gd_true (decide_eq_true (by omega)), B_app]
      simp only [B_size]
      rw [gd_true (decide_eq_true (by simp; omega)), spl, if_neg h43]
      exact next (acc ++ [b]) w (by simp; omega) hw

theorem impl_anf_loop (N : Nat) (hN : 1048576 < N) (n : Nat) (hn : n ≤ 5) (lB : ByteArray) (ps : List (List UInt8)) (hps : ps.length ≤ 1000) (hp1 : ∀ p ∈ ps, p.length ≤ 1000)
    (k0 : Bool → Int → Int → Option β) (k1 : ByteArray → Int → Int → Int → Int → Option β) : ∀ (rest pre : List (List UInt8)) (F w : Nat), pre ++ rest = ps → rest.length < F → w < 4294967296 →
    zj115 N F (n : Int) lB (ps.length : Int) (pre.length : Int) 0 0 (n : Int) (w : Int) (ps.map B) k0 k1 = runAK (runA (qi n) rest w) (fun w => k1 lB 0 0 (n : Int) (w : Int)) (k0 false 0 0) := by
  intro rest
  induction rest with
  | nil =>
    intro pre F w hp hF hw
    obtain ⟨G, rfl⟩ : ∃ G, F = G + 1 := ⟨F - 1, by simp at hF; omega⟩
    have hlen : ps.length = pre.length := by rw [← hp]; simp
    simp only [zj115, zj114]
    rw [decide_eq_false (by omega), cond_false]
    rfl
  | cons p rest ih =>
    intro pre F w hp hF hw
    simp only [List.length_cons] at hF
    obtain ⟨G, rfl⟩ : ∃ G, F = G + 1 := ⟨F - 1, by omega⟩
    have hlen : ps.length = pre.length + (rest.length + 1) := by rw [← hp]; simp
    have hrd : rd ByteArray.empty (ps.map B) (pre.length : Int) = B p := by
      rw [← hp]
      simp [rd, List.getD_eq_getElem?_getD]
    have next := fun w h => ih (pre ++ [p]) G w (by rw [← hp]; simp) (by omega) h
    simp only [List.length_append, List.length_cons, List.length_nil, Nat.zero_add] at next
    simp only [zj115, zj114, hrd, List.length_map]
    rw [decide_eq_true (by omega : (pre.length : Int) < (ps.length : Int)), cond_true, gd_true (decide_eq_true (by omega)), gd_true rfl, impl_ParseTerm_n N hN n hn p (hp1 p (by rw [← hp]; simp)), w64_succ _ (by omega)]
    simp only [runA, qi]
    cases hq : ptm n p with
    | none => rfl
    | some t =>
      have ht := (pt_ok hn hq).2
      simp only [ptK, Bool.not_true, cond_false]
      rw [gd_true (decide_eq_true (by omega)), (or_step w t.1 hw ht.1).1]
      exact next (w ||| 2 ^ t.1) (or_step w t.1 hw ht.1).2

theorem Anf_both (N : Nat) (hN : 1048576 < N) (n : Nat) (hn : n ≤ 5) (l : List UInt8) :
    ∃ (n' w : Int) (b : Bool), (∀ K : Int → Int → Bool → Option β, zj24 N (n : Int) (B l) K = K n' w b) ∧ (∀ K : Int → Int → Bool → Option β, zj116 N (n : Int) (B l) K = K n' w b) := by
  have h1in : ∀ K : Bool → Option β, zj0 N (n : Int) 0 5 K = K true := fun K => by
    rw [spec_l1In_eq, decide_eq_true (by omega : (0 : Int) ≤ (n : Int)), decide_eq_true (by omega : (n : Int) ≤ 5)]
    rfl
  have hbits : ∀ K : Bool → Option β, zj71 N (n : Int) K = K true := fun K => by
    unfold zj71
    rw [decide_eq_true (by omega : (n : Int) ≥ 0), cond_true, decide_eq_true (by omega : (n : Int) ≤ 5)]
  by_cases hlen : l.length ≤ 200
  · have h48 : ((B l).toList == (strOf [48]).toList) = (l == [48]) := by rw [B_toList, B_strOf, B_toList]; rfl
    have tail : ∀ (w : Nat), w < 2 ^ 2 ^ n → ∀ (K : Int → Int → Bool → Option β), (zj17 N (n : Int) (w : Int) fun r14 => zj21 N (n : Int) r14 fun r15 => cond (!(r15.toList == (B l).toList)) (K 0 0 false) (K (n : Int) r14 true)) = cond (fanf (anfw w n) n == l) (K (n : Int) (anfw w n : Int) true) (K 0 0 false) := fun w hw K => by
      rw [spec_l11Anf_n N hN n w hn (w_small hn hw), spec_FormatAnf_n N hN n _ hn (anfw_lt _ _), B_toList, B_toList]
      cases fanf (anfw w n) n == l <;> rfl
    have tailI : ∀ (w : Nat), w < 2 ^ 2 ^ n → ∀ (K : Int → Int → Bool → Option β), (zj107 N (n : Int) (w : Int) fun r12 r13 => zj113 N r12 r13 fun r14 => cond (!(r14.toList == (B l).toList)) (K 0 0 false) (K r12 r13 true)) = cond (fanf (anfw w n) n == l) (K (n : Int) (anfw w n : Int) true) (K 0 0 false) := fun w hw K => by
      rw [impl_anf_n N hN n w hn (w_small hn hw), impl_FormatAnf_n N hN n _ hn (anfw_lt _ _), B_toList, B_toList]
      cases fanf (anfw w n) n == l <;> rfl
    cases hl0 : (l == [48]) with
    | true =>
      have e1 : ∀ K : Int → Int → Bool → Option β, zj24 N (n : Int) (B l) K = cond (fanf (anfw 0 n) n == l) (K (n : Int) (anfw 0 n : Int) true) (K 0 0 false) := fun K => by
        unfold zj24
        obtain ⟨G, hG⟩ : ∃ G, N = G + 1 := ⟨N - 1, by omega⟩
        rw [h1in, Bool.not_true, cond_false, B_size, decide_eq_false (by omega), cond_false]
        have : ∀ (k0 : Bool → Int → Int → Option β) (k1 : Int → ByteArray → Int → Int → Int → Option β), zj23 N N (n : Int) (B l) 0 ByteArray.empty 0 0 0 k0 k1 = k1 (n : Int) (B l) 0 0 0 := fun k0 k1 => by
          rw [show zj23 (β := β) N N = zj23 N (G + 1) by rw [hG]]
          simp only [zj23, zj22, B_size, h48, hl0]
          rw [decide_eq_true (by omega : (0 : Int) ≤ (l.length : Int))]
          rfl
        rw [this]
        exact tail 0 (two_pos _) K
      have e2 : ∀ K : Int → Int → Bool → Option β, zj116 N (n : Int) (B l) K = cond (fanf (anfw 0 n) n == l) (K (n : Int) (anfw 0 n : Int) true) (K 0 0 false) := fun K => by
        unfold zj116
        rw [hbits, Bool.not_true, cond_false, B_size, decide_eq_false (by omega), cond_false, h48, hl0, Bool.not_true, cond_false]
        exact tailI 0 (two_pos _) K
      cases hf : fanf (anfw 0 n) n == l with
      | true => exact ⟨_, _, true, fun K => by rw [e1, hf, cond_true], fun K => by rw [e2, hf, cond_true]⟩
      | false => exact ⟨0, 0, false, fun K => by rw [e1, hf, cond_false], fun K => by rw [e2, hf, cond_false]⟩
    | false =>
      obtain ⟨h1, h2⟩ := spl_len 43 l []
      simp only [List.length_nil, Nat.zero_add] at h2
      have hw0 : ∀ w, runA (qi n) (spl 43 [] l) 0 = some w → w < 2 ^ 2 ^ n := fun w h => run_qi_lt n hn _ 0 w h (two_pos _)
      have e1 : ∀ K : Int → Int → Bool → Option β, zj24 N (n : Int) (B l) K = runAK (runA (qs n) (spl 43 [] l) 0) (fun w => zj17 N (n : Int) (w : Int) fun r14 => zj21 N (n : Int) r14 fun r15 => cond (!(r15.toList == (B l).toList)) (K 0 0 false) (K (n : Int) r14 true)) (K 0 0 false) := fun K => by
        unfold zj24
        rw [h1in, Bool.not_true, cond_false, B_size, decide_eq_false (by omega), cond_false]
        exact spec_anf_loop N hN n hn l hlen hl0 (fun e0 e1 e2 => K e1 e2 e0) (fun e13_0 e13_1 e13_2 _ _ => zj17 N e13_0 e13_2 fun r14 => zj21 N e13_0 r14 fun r15 => cond (!(r15.toList == e13_1.toList)) (K 0 0 false) (K e13_0 r14 true)) l [] [] N 0 rfl (by omega) (by simp) (by omega)
      have e2 : ∀ K : Int → Int → Bool → Option β, zj116 N (n : Int) (B l) K = runAK (runA (qi n) (spl 43 [] l) 0) (fun w => zj107 N (n : Int) (w : Int) fun r12 r13 => zj113 N r12 r13 fun r14 => cond (!(r14.toList == (B l).toList)) (K 0 0 false) (K r12 r13 true)) (K 0 0 false) := fun K => by
        unfold zj116 strings_Split
        have hsep : strOf [43] = ⟨#[43]⟩ := rfl
        rw [hbits, Bool.not_true, cond_false, B_size, decide_eq_false (by omega), cond_false, h48, hl0, Bool.not_false, cond_true, hsep, gd_true (decide_eq_true (show (⟨#[43]⟩ : ByteArray).size = 1 from rfl)), gd_true (decide_eq_true (by omega)), splitB_spl, B_list]
        dsimp only
        rw [List.length_map]
        exact impl_anf_loop N hN n hn (B l) (spl 43 [] l) (by omega) (fun p hp => by have := h2 p hp; omega) (fun e0 e1 e2 => K e1 e2 e0) (fun e0 _ _ e3 e4 => zj107 N e3 e4 fun r12 r13 => zj113 N r12 r13 fun r14 => cond (!(r14.toList == e0.toList)) (K 0 0 false) (K r12 r13 true)) (spl 43 [] l) [] N 0 rfl (by omega) (by omega)
      rcases run_differ n hn (spl 43 [] l) 0 with hsame | ⟨hnone, p, hp, hb⟩
      · rw [hsame] at e1
        cases hr : runA (qi n) (spl 43 [] l) 0 with
        | none => exact ⟨0, 0, false, fun K => by rw [e1, hr]; rfl, fun K => by rw [e2, hr]; rfl⟩
        | some w =>
          rw [hr] at e1 e2
          simp only [runAK] at e1 e2
          have hw := hw0 w hr
          cases hf : fanf (anfw w n) n == l with
          | true => exact ⟨_, _, true, fun K => by rw [e1, tail w hw, hf, cond_true], fun K => by rw [e2, tailI w hw, hf, cond_true]⟩
          | false => exact ⟨0, 0, false, fun K => by rw [e1, tail w hw, hf, cond_false], fun K => by rw [e2, tailI w hw, hf, cond_false]⟩
      · refine ⟨0, 0, false, fun K => by rw [e1, hnone]; rfl, fun K => ?_⟩
        cases hr : runA (qi n) (spl 43 [] l) 0 with
        | none => rw [e2, hr]; rfl
        | some w =>
          rw [e2, hr]
          simp only [runAK]
          have hf : (fanf (anfw w n) n == l) = false := by
            rw [beq_eq_false_iff_ne]
            intro e
            rcases spl_mem 43 33 l [] p hp hb with h | h
            · cases h
            · rw [← e] at h; exact fanf_no33 _ n hn h
          rw [tailI w (hw0 w hr), hf, cond_false]
  · refine ⟨0, 0, false, fun K => ?_, fun K => ?_⟩
    · unfold zj24
      rw [h1in, Bool.not_true, cond_false, B_size, decide_eq_true (by omega), cond_true]
    · unfold zj116
      rw [hbits, Bool.not_true, cond_false, B_size, decide_eq_true (by omega), cond_true]

/-! ### Tables of terms -/
def hold (o : List (Nat × Nat)) (x : Nat) : Bool := o.any fun t => x &&& t.1 == t.2
theorem tabw_or (g h : Nat → Bool) : ∀ m, tabw g m ||| tabw h m = tabw (fun x => g x || h x) m
  | 0 => by simp [tabw]
  | m + 1 => by
    apply Nat.eq_of_testBit_eq
    intro i
    rw [Nat.testBit_or, tabw_bit, tabw_bit, tabw_bit]
    cases decide (i < m + 1) <;> simp
theorem and_smT : ∀ x : Nat, x < 32 → ∀ m : Nat, m < 32 → bits .and .i64 (x : Int) (m : Int) = ((x &&& m : Nat) : Int) := by decide +kernel
theorem spec_l6Word_n (N : Nat) (hN : 1048576 < N) (n m v : Nat) (hn : n ≤ 5) (hm : m < 32) (K : Int → Option β) : zj33 N (n : Int) (m : Int) (v : Int) K = K (tabw (fun x => x &&& m == v) (2 ^ n) : Int) := by
  have hs := size_le hn
  have hz : (0 : Int) ≤ ((2 ^ n : Nat) : Int) := Int.natCast_nonneg _
  unfold zj33
  refine loop_st (fun F x => zj32 N F (n : Int) (tabw (fun x => x &&& m == v) x : Int) (x : Int) (m : Int) (v : Int) fun e => K e) (2 ^ n) _ (fun F x hx => ?_) (fun F => ?_) N 0 (by omega) (by omega)
  · simp only [zj32, zj31]
    rw [gd_true (decide_eq_true (by omega)), shl_one n (by omega), decide_eq_true (by omega : (x : Int) < ((2 ^ n : Nat) : Int)), cond_true, and_smT x (by omega) m hm, natb, gd_true (decide_eq_true (by omega)), w64_succ x (by omega), tabw_step _ x (by omega)]
    cases h : x &&& m == v with
    | true => rw [cond_true, tabw_yes (g := fun x => x &&& m == v) h]
    | false => rw [cond_false, tabw_no (g := fun x => x &&& m == v) h]
  · simp only [zj32, zj31]
    rw [gd_true (decide_eq_true (by omega)), shl_one n (by omega), decide_eq_false (by omega : ¬ ((2 ^ n : Nat) : Int) < ((2 ^ n : Nat) : Int)), cond_false]

theorem spec_TableOfTerms_n (N : Nat) (hN : 1048576 < N) (n : Nat) (hn : n ≤ 5) (o : List (Nat × Nat)) (ho : o.length ≤ 1000) (hg : ∀ t ∈ o, Good n t) (K : Int → Int → Bool → Option β) : zj36 N (n : Int) (tl o) K = K (n : Int) (tabw (hold o) (2 ^ n) : Int) true := by
  have h1in : ∀ K : Bool → Option β, zj0 N (n : Int) 0 5 K = K true := fun K => by
    rw [spec_l1In_eq, decide_eq_true (by omega : (0 : Int) ≤ (n : Int)), decide_eq_true (by omega : (n : Int) ≤ 5)]
    rfl
  have hs := size_le hn
  unfold zj36
  refine loop_st (fun F i => zj35 N F (n : Int) (tl o) (tabw (hold (o.take i)) (2 ^ n) : Int) (i : Int) 0 0 (fun e0 e1 e2 => K e1 e2 e0) fun e0 e1 _ _ => zj0 N e0 0 5 fun r9 => cond (!r9) (K 0 0 false) (K e0 e1 true)) o.length _ (fun F i hi => ?_) (fun F => ?_) N 0 (by omega) (by omega) |> fun h => Eq.trans ?_ h
  · have h0 : tabw (hold []) (2 ^ n) = 0 := by
      apply Nat.eq_of_testBit_eq
      intro i
      rw [tabw_bit]
      simp [hold]
    show _ = zj35 N N (n : Int) (tl o) (tabw (hold (o.take 0)) (2 ^ n) : Int) ((0 : Nat) : Int) 0 0 _ _
    rw [List.take_zero, h0]
    rfl
  · simp only [zj35, zj34, tl_len]
    obtain ⟨g1, g2, g3⟩ := hg o[i] (List.getElem_mem hi)
    rw [decide_eq_true (by omega : (i : Int) < (o.length : Int)), cond_true, gd_true (decide_eq_true (by omega)), gd_true rfl, rd_tl o i hi, spec_IsTerm_n N n _ _ hn g2 g3, g1, Bool.not_true, cond_false, gd_true (decide_eq_true (by omega)), gd_true rfl, spec_l6Word_n N hN n _ _ hn g2, w64_succ i (by omega)]
    have b1 : ∀ g, tabw g (2 ^ n) < 2 ^ 63 := fun g => Nat.lt_of_lt_of_le (tabw_lt g _) (Nat.pow_le_pow_right (by decide) (by omega))
    rw [bOr _ _ (b1 _) (b1 _), tabw_or]
    have e : (fun x => hold (o.take i) x || (x &&& o[i].1 == o[i].2)) = hold (o.take (i + 1)) := by
      funext x
      unfold hold
      rw [List.take_add_one, List.getElem?_eq_getElem hi, Option.toList_some, List.any_append, List.any_cons, List.any_nil, Bool.or_false]
    rw [e]
  · simp only [zj35, zj34, tl_len]
    rw [decide_eq_false (by omega : ¬ (o.length : Int) < (o.length : Int)), cond_false, h1in, Bool.not_true, cond_false, List.take_of_length_le (Nat.le_refl _)]

theorem any_loop (N : Nat) (hN : 1048576 < N) (o : List (Nat × Nat)) (ho : o.length ≤ 1000) (h : Int → Int → (Bool → Option β) → Option β) (p : Nat × Nat → Bool) (hh : ∀ t ∈ o, ∀ k, h (t.1 : Int) (t.2 : Int) k = k (p t)) (K : Bool → Option β) : zj80 N (tl o) h K = K (o.any p) := by
  unfold zj80 zj79
  rw [tl_len]
  have key : ∀ (d i F : Nat), o.length - i = d → i ≤ o.length → d < F → zj78 N h F (tl o) (o.length : Int) (i : Int) (fun e => K (decide (e ≥ 0))) (K (decide ((-1 : Int) ≥ 0))) = K ((o.drop i).any p) := by
    intro d
    induction d with
    | zero =>
      intro i F hd hi hF
      obtain ⟨G, rfl⟩ : ∃ G, F = G + 1 := ⟨F - 1, by omega⟩
      simp only [zj78, zj77]
      rw [decide_eq_false (by omega), cond_false, List.drop_of_length_le (by omega)]
      rfl
    | succ d ih =>
      intro i F hd hi hF
      obtain ⟨G, rfl⟩ : ∃ G, F = G + 1 := ⟨F - 1, by omega⟩
      have hlt : i < o.length := by omega
      simp only [zj78, zj77, tl_len, rd_tl o i hlt]
      rw [decide_eq_true (by omega : (i : Int) < (o.length : Int)), cond_true, gd_true (decide_eq_true (by omega)), gd_true rfl, hh _ (List.getElem_mem hlt), w64_succ i (by omega), ih (i + 1) G (by omega) (by omega) (by omega), List.drop_eq_getElem_cons hlt, List.any_cons, decide_eq_true (by omega : (i : Int) ≥ 0)]
      cases p o[i] <;> rfl
  exact (key o.length 0 N (by omega) (by omega) (by omega)).trans (by rw [List.drop_zero])

theorem impl_TableOfTerms_n (N : Nat) (hN : 1048576 < N) (n : Nat) (hn : n ≤ 5) (o : List (Nat × Nat)) (ho : o.length ≤ 1000) (hg : ∀ t ∈ o, Good n t) (K : Int → Int → Bool → Option β) : zj123 N (n : Int) (tl o) K = K (n : Int) (tabw (hold o) (2 ^ n) : Int) true := by
  have hbits : ∀ K : Bool → Option β, zj71 N (n : Int) K = K true := fun K => by
    unfold zj71
    rw [decide_eq_true (by omega : (n : Int) ≥ 0), cond_true, decide_eq_true (by omega : (n : Int) ≤ 5)]
  have hs := size_le hn
  unfold zj123 zj117
  rw [hbits, cond_true, any_loop N hN o ho _ (fun _ => false) (fun t ht k => by
    obtain ⟨g1, g2, g3⟩ := hg t ht
    unfold zj74
    rw [impl_IsTerm_n N n _ _ hn g2 g3, g1]
    rfl)]
  have h0 : (o.any fun _ => false) = false := by simp
  rw [h0, Bool.not_false]
  dsimp only
  rw [Bool.not_true, cond_false]
  unfold zj122
  rw [makeTable_eq N (by omega) n hn _ (hold o) (fun x k hx => by
    unfold zj81
    rw [any_loop N hN o ho _ (fun t => x &&& t.1 == t.2) (fun t ht k => by
      obtain ⟨g1, g2, g3⟩ := hg t ht
      unfold zj76 zj75
      rw [and_smT x (by omega) t.1 g2, natb])]
    rfl)]
end Go.Proofs.YtemihnclhcobnaaGreatDoor
namespace Go.Proofs.YtemihnclhcobnaaGreatDoor
open Go.Rv
set_option linter.unusedVariables false
variable {β : Type}
theorem allTo_all (p : UInt8 → Bool) (l : List UInt8) : allTo (fun i => p (at8 l i)) l.length = l.all p := by
  rw [Bool.eq_iff_iff, List.all_eq_true]
  constructor
  · intro h x hx
    obtain ⟨i, hi, rfl⟩ := List.mem_iff_getElem.1 hx
    have := allTo_spec h i hi
    rw [at8_get l i hi] at this
    exact this
  · intro h
    exact allTo_of fun i hi => by
      show p (at8 l i) = true
      rw [at8_get l i hi]
      exact h _ (List.getElem_mem hi)
theorem sub97 (b : Nat) (h : 97 ≤ b) (hb : b < 256) : w64 (w8 ((b : Int) - 97)) = ((b - 97 : Nat) : Int) := by
  rw [show (b : Int) - 97 = ((b - 97 : Nat) : Int) by omega, w8_small _ (by omega), w64_id (by omega) (by omega)]
/-- That a byte is no letter beyond. -/
def okB (n : Nat) (b : UInt8) : Bool := !decide (97 ≤ b.toNat) || decide (b.toNat - 97 < n)
def lets (n : Nat) : Tr → Bool
  | .nil => true
  | .node s _ a c => if a.isNil then true else decide (s.toNat - 97 < n) && (lets n a && lets n c)
theorem lets_all (n : Nat) : ∀ T, gt T → (tx T).all (okB n) = lets n T
  | .nil, h => h.elim
  | .node s b a c, h => by
    obtain ⟨rfl, m, rfl, h⟩ := h
    rcases h with ⟨h, rfl, rfl⟩ | ⟨h1, h2, ga, gc⟩
    · rcases h with rfl | rfl <;> rfl
    · have e : (UInt8.ofNat m).toNat = m := byte_of m (by omega)
      simp only [tx, lets, Int.toNat_natCast, List.all_cons, List.all_append, okB, e, gt_nil ga, lets_all n a ga, lets_all n c gc]
      rw [decide_eq_true h1, if_neg (by decide)]
      rfl

theorem within_eq (N : Nat) (n : Nat) : ∀ (F : Nat) (T : Tr), gt T → hd T < F → ∀ k : Bool → Option β, zj129 N F T (n : Int) k = k (lets n T) := by
  intro F
  induction F with
  | zero => intro T _ h; omega
  | succ F ih =>
    intro T hg hF k
    cases T with
    | nil => exact hg.elim
    | node s b a c =>
      obtain ⟨rfl, m, rfl, h⟩ := hg
      rcases h with ⟨h, rfl, rfl⟩ | ⟨h1, h2, ga, gc⟩
      · rcases h with rfl | rfl <;> rfl
      · have hna := gt_nil ga
        simp only [hd] at hF
        rw [hna, if_neg (by decide)] at hF
        simp only [zj129, zj128, zj83, isNil_node, Bool.not_false, Tr.l, Tr.r, Tr.a, hna]
        simp only [gd, cond_true, cond_false, sub97 m h1 (by omega)]
        rw [ih a ga (by omega)]
        simp only [lets, hna, Int.toNat_natCast]
        rw [if_neg (by decide)]
        by_cases hm : m - 97 < n
        · rw [decide_eq_true (by omega : ((m - 97 : Nat) : Int) < (n : Int)), decide_eq_true hm, cond_true]
          cases hl : lets n a with
          | false => rfl
          | true => rw [cond_true, ih c gc (by omega)]; rfl
        · rw [decide_eq_false (by omega : ¬ ((m - 97 : Nat) : Int) < (n : Int)), decide_eq_false hm]; rfl

theorem ask_loop (N x : Nat) (hx : x < 32) : ∀ (F : Nat) (T : Tr) (c : Nat), gt T → hd T < F → hd T + c < 1000 →
    ∃ b : Int, ∃ a d : Tr, ∀ k0 : Tr → Int → Option β, zj85 N F T (x : Int) (c : Int) k0 = k0 (.node (leafAt x T : Int) b a d) ((c + asked x T : Nat) : Int) := by
  intro F
  induction F with
  | zero => intro T c _ h; omega
  | succ F ih =>
    intro T q hg hF hq
    cases T with
    | nil => exact hg.elim
    | node s b a c =>
      obtain ⟨rfl, m, rfl, h⟩ := hg
      rcases h with ⟨h, rfl, rfl⟩ | ⟨h1, h2, ga, gc⟩
      · exact ⟨0, .nil, .nil, fun k0 => by rcases h with rfl | rfl <;> rfl⟩
      · have hna := gt_nil ga
        simp only [hd] at hF hq
        rw [hna, if_neg (by decide)] at hF hq
        have ea : asked x (.node (m : Int) 0 a c) = 1 + (if x.testBit (m - 97) then asked x c else asked x a) := by
          simp only [asked]; rw [hna, if_neg (by decide)]; rfl
        have el : leafAt x (.node (m : Int) 0 a c) = (if x.testBit (m - 97) then leafAt x c else leafAt x a) := by
          simp only [leafAt]; rw [hna, if_neg (by decide)]; rfl
        simp only [zj85, zj84, zj83, isNil_node, Bool.not_false, Tr.l, Tr.r, Tr.a, hna]
        simp only [gd, cond_true, sub97 m h1 (by omega), decide_eq_true (Int.natCast_nonneg (m - 97)), bit_w x (m - 97) (by omega), bw_eq0, w64_succ q (by omega)]
        rw [ea, el]
        cases hbit : x.testBit (m - 97) with
        | false =>
          obtain ⟨b', a', d', he⟩ := ih a (q + 1) ga (by omega) (by omega)
          refine ⟨b', a', d', fun k0 => ?_⟩
          rw [Bool.not_false, cond_true, he, if_neg (by decide), if_neg (by decide)]
          congr 2
          omega
        | true =>
          obtain ⟨b', a', d', he⟩ := ih c (q + 1) gc (by omega) (by omega)
          refine ⟨b', a', d', fun k0 => ?_⟩
          rw [Bool.not_true, cond_false, he, if_pos rfl, if_pos rfl]
          congr 2
          omega
theorem leaf_val (x : Nat) : ∀ T, gt T → leafAt x T = 48 ∨ leafAt x T = 49
  | .nil, h => h.elim
  | .node s b a c, h => by
    obtain ⟨rfl, m, rfl, h⟩ := h
    rcases h with ⟨h, rfl, rfl⟩ | ⟨h1, h2, ga, gc⟩
    · rcases h with rfl | rfl
      · exact .inl rfl
      · exact .inr rfl
    · have e1 := leaf_val x a ga
      have e2 := leaf_val x c gc
      simp only [leafAt]
      rw [gt_nil ga, if_neg (by decide)]
      split
      · exact e2
      · exact e1
def tv (T : Tr) (x : Nat) : Bool := leafAt x T == 49
theorem leaf_w (x : Nat) (T : Tr) (h : gt T) : w64 (w8 ((leafAt x T : Int) - 48)) = ((tv T x).toNat : Int) := by
  unfold tv
  rcases leaf_val x T h with e | e <;> rw [e] <;> rfl

theorem Tree_both (N : Nat) (hN : 1048576 < N) (n : Nat) (hn : n ≤ 5) (l : List UInt8) (hl : l.length ≤ 1048576) :
    ∃ (n' w : Int) (b : Bool), (∀ K : Int → Int → Bool → Option β, zj51 N (B l) (n : Int) K = K n' w b) ∧ (∀ K : Int → Int → Bool → Option β, zj132 N (B l) (n : Int) K = K n' w b) := by
  have h1in : ∀ K : Bool → Option β, zj0 N (n : Int) 0 5 K = K true := fun K => by
    rw [spec_l1In_eq, decide_eq_true (by omega : (0 : Int) ≤ (n : Int)), decide_eq_true (by omega : (n : Int) ≤ 5)]
    rfl
  have hbits : ∀ K : Bool → Option β, zj71 N (n : Int) K = K true := fun K => by
    unfold zj71
    rw [decide_eq_true (by omega : (n : Int) ≥ 0), cond_true, decide_eq_true (by omega : (n : Int) ≤ 5)]
  have hs := size_le hn
  have hz : (0 : Int) ≤ ((2 ^ n : Nat) : Int) := Int.natCast_nonneg _
  have hread := fun k => readTree_eq (β := β) N N l 0 (by omega) (by decide) k
  simp only [Int.natCast_zero] at hread
  cases ht : tt N l 0 with
  | none =>
    refine ⟨0, 0, false, fun K => ?_, fun K => ?_⟩
    · unfold zj51
      rw [spec_IsTree_eq N hN l hl]
      unfold isTree
      rw [ht]
      rfl
    · unfold zj132 zj131 zj127 zj126
      rw [hread, ht]
      rfl
  | some p =>
    obtain ⟨T, r⟩ := p
    obtain ⟨g1, g2, _⟩ := tt_gt _ _ _ _ _ (by decide) ht
    obtain ⟨a1, a2, _⟩ := tt_spec _ _ _ _ _ (by decide) ht
    have hr : ∀ K : Tr → Bool → Option β, zj127 N (B l) K = K T (r == []) := fun K => by
      unfold zj127 zj126
      rw [hread, ht]
      simp only [a1, Bool.not_false, cond_true, B_nil, B_toList]
    cases hre : r == [] with
    | false =>
      refine ⟨0, 0, false, fun K => ?_, fun K => ?_⟩
      · unfold zj51
        rw [spec_IsTree_eq N hN l hl]
        unfold isTree
        rw [ht]
        cases r with
        | nil => cases hre
        | cons c r => rfl
      · unfold zj132 zj131
        rw [hr, hre]
        rfl
    | true =>
      have hre := eq_of_beq hre
      subst hre
      rw [List.append_nil] at a2
      have hit : isTree N l = true := by unfold isTree; rw [ht]
      have hlen := isTree_len N l hit
      have eS : ∀ K : Int → Int → Bool → Option β, zj51 N (B l) (n : Int) K = cond (lets n T) (K (n : Int) (tabw (tv T) (2 ^ n) : Int) true) (K 0 0 false) := fun K => by
        unfold zj51
        rw [spec_IsTree_eq N hN l hl, hit, Bool.not_true, cond_false, h1in, Bool.not_true, cond_false]
        have outer := fun (k1 : ByteArray → Int → Int → Int → Option β) => loop_all (fun F i => zj48 N F (B l) (n : Int) (i : Int) 0 0 (fun e0 e1 e2 => K e1 e2 e0) k1) (fun i => okB n (at8 l i)) l.length (K 0 0 false) (k1 (B l) (n : Int) 0 0) (fun F i hi => by
          simp only [zj48, zj47, B_size]
          have hb := (at8 l i).toNat_lt
          rw [decide_eq_true (by omega : (i : Int) < (l.length : Int)), cond_true, gd_true (decide_eq_true (by omega)), gd_true rfl, bt_at8 l i hi, gd_true (decide_eq_true (by omega)), gd_true rfl, w64_succ i (by omega)]
          unfold okB
          by_cases h97 : 97 ≤ (at8 l i).toNat
          · rw [decide_eq_true (by omega : ((at8 l i).toNat : Int) ≥ 97), cond_true, sub97 _ h97 (by omega), decide_eq_true h97]
            by_cases hlt : (at8 l i).toNat - 97 < n
            · rw [decide_eq_false (by omega), decide_eq_true hlt]; rfl
            · rw [decide_eq_true (by omega), decide_eq_false hlt]; rfl
          · rw [decide_eq_false (by omega : ¬ ((at8 l i).toNat : Int) ≥ 97), cond_false, decide_eq_false h97]; rfl) (fun F => by
          simp only [zj48, zj47, B_size]
          rw [decide_eq_false (by omega), cond_false]) N (by omega)
        refine (outer _).trans ?_
        rw [allTo_all (okB n) l]
        have hall : l.all (okB n) = lets n T := by rw [← lets_all n T g1, ← a2]
        rw [hall]
        cases lets n T with
        | false => rfl
        | true =>
          rw [cond_true, cond_true]
          refine loop_st (fun F x => zj50 N F (B l) (n : Int) (tabw (tv T) x : Int) (x : Int) 0 0 fun e0 e1 _ _ => K e0 e1 true) (2 ^ n) _ (fun F x hx => ?_) (fun F => ?_) N 0 (by omega) (by omega)
          · simp only [zj50, zj49]
            rw [gd_true (decide_eq_true (by omega)), shl_one n (by omega), decide_eq_true (by omega : (x : Int) < ((2 ^ n : Nat) : Int)), cond_true]
            unfold zj46
            obtain ⟨p, hp, hv, he⟩ := l7Run_eq (β := β) N l hl hN x (by omega) N T 0 0 [] g1 (by rw [List.drop_zero, List.append_nil]; exact a2) (by omega) (by omega)
            simp only [Int.natCast_zero] at he
            rw [he, B_size, gd_true (decide_eq_true (by omega)), gd_true (decide_eq_true (by omega)), hv, leaf_w x T g1]
            dsimp only
            rw [gd_true (decide_eq_true (by omega)), w64_succ x (by omega)]
            cases hx1 : tv T x with
            | true =>
              have e1 : ((true.toNat : Nat) : Int) = 1 := rfl
              rw [e1, tabw_step _ x (by omega), tabw_yes hx1]
            | false =>
              have hb : tabw (tv T) x < 2 ^ 63 := Nat.lt_of_lt_of_le (tabw_lt _ x) (Nat.pow_le_pow_right (by decide) (by omega))
              have h0 : shlI .i64 ((false.toNat : Nat) : Int) (x : Int) = ((0 : Nat) : Int) := by
                have := shl_nat 0 x (by omega) (by omega)
                rw [Nat.zero_mul] at this
                exact this
              rw [h0, bOr _ _ hb (by decide), Nat.or_zero, tabw_no hx1]
          · simp only [zj50, zj49]
            rw [gd_true (decide_eq_true (by omega)), shl_one n (by omega), decide_eq_false (by omega : ¬ ((2 ^ n : Nat) : Int) < ((2 ^ n : Nat) : Int)), cond_false]
      have eI : ∀ K : Int → Int → Bool → Option β, zj132 N (B l) (n : Int) K = cond (lets n T) (K (n : Int) (tabw (tv T) (2 ^ n) : Int) true) (K 0 0 false) := fun K => by
        unfold zj132 zj131 zj130
        rw [hr]
        dsimp only
        rw [show (([] : List UInt8) == []) = true from rfl, Bool.not_true, cond_false, hbits, Bool.not_true, cond_false, within_eq N n N T g1 (by omega)]
        cases lets n T with
        | false => rfl
        | true =>
          rw [Bool.not_true, cond_false, cond_true, makeTable_eq N (by omega) n hn _ (tv T) (fun x k hx => by
            unfold zj87 zj86
            obtain ⟨b, a, d, he⟩ := ask_loop (β := β) N x (by omega) N T 0 g1 (by omega) (by omega)
            simp only [Int.natCast_zero] at he
            rw [he]
            simp only [isNil_node, Bool.not_false, gd, cond_true, Tr.a, leaf_w x T g1]
            cases tv T x <;> rfl)]
      cases hlt : lets n T with
      | true => exact ⟨_, _, true, fun K => by rw [eS, hlt, cond_true], fun K => by rw [eI, hlt, cond_true]⟩
      | false => exact ⟨0, 0, false, fun K => by rw [eS, hlt, cond_false], fun K => by rw [eI, hlt, cond_false]⟩
end Go.Proofs.YtemihnclhcobnaaGreatDoor
namespace Go.Proofs.YtemihnclhcobnaaGreatDoor
open Go.Rv
set_option linter.unusedVariables false
variable {β : Type}
/-- What a formula tells of an input. -/
def ev (x : Nat) : Tr → Bool
  | .nil => false
  | .node s _ a c =>
    if a.isNil then cond (lt5 s.toNat) (x.testBit (s.toNat - 97)) (s.toNat == 49)
    else cond (s.toNat == 33) (!ev x a) (cond (s.toNat == 38) (ev x a && ev x c) (cond (s.toNat == 124) (ev x a || ev x c) (ev x a != ev x c)))
/-- That all letters are below. -/
def letsF (n : Nat) : Tr → Bool
  | .nil => true
  | .node s _ a c => if a.isNil then cond (lt5 s.toNat) (decide (s.toNat - 97 < n)) true else letsF n a && cond (s.toNat == 33) true (letsF n c)
def okF (n : Nat) (b : UInt8) : Bool := !(decide (97 ≤ b.toNat) && decide (b.toNat ≤ 101)) || decide (b.toNat - 97 < n)
theorem okF_lt5 (n m : Nat) (hm : m < 256) : okF n (UInt8.ofNat m) = cond (lt5 m) (decide (m - 97 < n)) true := by
  have e : (UInt8.ofNat m).toNat = m := byte_of m hm
  unfold okF lt5
  rw [e]
  by_cases h1 : 97 ≤ m
  · by_cases h2 : m < 102
    · rw [decide_eq_true h1, decide_eq_true h2, decide_eq_true (by omega : m ≤ 101)]; rfl
    · rw [decide_eq_false h2, decide_eq_false (by omega : ¬ m ≤ 101), Bool.and_false]; rfl
  · rw [decide_eq_false h1]; rfl
theorem letsF_all (n : Nat) : ∀ T, wf T → (tx T).all (okF n) = letsF n T
  | .nil, h => h.elim
  | .node s b a c, h => by
    obtain ⟨rfl, m, rfl, hm, h⟩ := h
    rcases h with ⟨h, rfl, rfl⟩ | ⟨rfl, ha, rfl⟩ | ⟨h, ha, hc⟩
    · simp only [tx, letsF, Int.toNat_natCast, List.all_cons, List.append_nil, List.all_nil, Bool.and_true, okF_lt5 n m hm]
      rfl
    · simp only [tx, letsF, List.all_cons, List.append_nil, wf_nonnil ha, letsF_all n a ha]
      rw [if_neg (by decide)]
      have : okF n (UInt8.ofNat (Int.toNat ((33 : Nat) : Int))) = true := rfl
      rw [this]
      simp
    · simp only [tx, letsF, Int.toNat_natCast, List.all_cons, List.all_append, wf_nonnil ha, letsF_all n a ha, letsF_all n c hc, okF_lt5 n m hm]
      rw [if_neg (by decide)]
      rcases bn_cases h with rfl | rfl | rfl <;> simp [lt5]

/-! ### Words of tables -/
theorem tabw_63 (g : Nat → Bool) (n : Nat) (hn : n ≤ 5) : tabw g (2 ^ n) < 2 ^ 63 := Nat.lt_of_lt_of_le (tabw_lt g _) (Nat.pow_le_pow_right (by decide) (by have := size_le hn; omega))
theorem tabw_and (g h : Nat → Bool) (m : Nat) : tabw g m &&& tabw h m = tabw (fun x => g x && h x) m := by
  apply Nat.eq_of_testBit_eq
  intro i
  rw [Nat.testBit_and, tabw_bit, tabw_bit, tabw_bit]
  cases decide (i < m) <;> simp
theorem tabw_xor (g h : Nat → Bool) (m : Nat) : tabw g m ^^^ tabw h m = tabw (fun x => g x != h x) m := by
  apply Nat.eq_of_testBit_eq
  intro i
  rw [Nat.testBit_xor, tabw_bit, tabw_bit, tabw_bit]
  cases decide (i < m) <;> simp
theorem tabw_not (g : Nat → Bool) (m : Nat) : tabw g m ^^^ (2 ^ m - 1) = tabw (fun x => !g x) m := by
  apply Nat.eq_of_testBit_eq
  intro i
  rw [Nat.testBit_xor, tabw_bit, tabw_bit, Nat.testBit_two_pow_sub_one]
  cases decide (i < m) <;> simp

theorem part_table_eq (N : Nat) (hN : 1048576 < N) (n : Nat) (hn : n ≤ 5) : ∀ (F : Nat) (T : Tr), wf T → (tx T).length ≤ F → ∀ K : Int → Int → Bool → Option β,
    zj142 N F T (n : Int) K = cond (letsF n T) (K (n : Int) (tabw (fun x => ev x T) (2 ^ n) : Int) true) (K 0 0 false) := by
  have hbits : ∀ K : Bool → Option β, zj71 N (n : Int) K = K true := fun K => by
    unfold zj71
    rw [decide_eq_true (by omega : (n : Int) ≥ 0), cond_true, decide_eq_true (by omega : (n : Int) ≤ 5)]
  have hs := size_le hn
  have hz : (0 : Int) ≤ ((2 ^ n : Nat) : Int) := Int.natCast_nonneg _
  intro F
  induction F with
  | zero => intro T h hF; have := tx_pos h; omega
  | succ F ih =>
    intro T h hF K
    cases T with
    | nil => exact h.elim
    | node s b A C =>
      obtain ⟨rfl, m, rfl, hm, h⟩ := h
      simp only [tx, List.length_cons, List.length_append] at hF
      simp only [zj142, zj141, isLeaf_eq, isNil_node, Bool.not_false, Tr.a, Tr.l, Tr.r]
      simp only [gd, cond_true]
      rcases h with ⟨h, rfl, rfl⟩ | ⟨rfl, ha, rfl⟩ | ⟨h, ha, hc⟩
      · rw [isNil_nil, cond_true, isLetter_nat]
        simp only [letsF, ev, isNil_nil, if_true, Int.toNat_natCast]
        have e5 : (decide (97 ≤ m) && decide (m < 102)) = lt5 m := rfl
        rw [e5]
        rcases lf_cases h with h5 | ⟨h5, h4⟩
        · have h5' := h5
          simp only [lt5, Bool.and_eq_true, decide_eq_true_eq] at h5'
          simp only [h5, cond_true]
          rw [sub97 m h5'.1 hm]
          unfold zj139
          rw [hbits, Bool.not_true, cond_false, decide_eq_false (by omega), cond_false]
          by_cases hlt : m - 97 < n
          · rw [decide_eq_false (by omega), cond_false, decide_eq_true hlt, cond_true]
            unfold zj138
            rw [makeTable_eq N (by omega) n hn _ (fun x => x.testBit (m - 97)) (fun x k hx => by
              unfold zj89
              rw [gd_true (decide_eq_true (by omega)), bit_w x _ (by omega), bw_eq1])]
          · rw [decide_eq_true (by omega), cond_true, decide_eq_false hlt, cond_false]
        · simp only [h5, cond_false, cond_true]
          rw [makeTable_eq N (by omega) n hn _ (fun _ => m == 49) (fun x k hx => by
            unfold zj88
            simp only [isNil_node, Bool.not_false, gd, cond_true, Tr.a]
            exact congrArg k (natb m 49))]
      · rw [wf_nonnil ha, cond_false, ih A ha (by omega)]
        simp only [letsF, ev, wf_nonnil ha]
        rw [if_neg (by decide)]
        cases hl : letsF n A with
        | false => rfl
        | true =>
          rw [cond_true, Bool.not_true, cond_false, show ((((33 : Nat) : Int)) == 33) = true from rfl, cond_true]
          unfold zj140
          rw [impl_Table_size_eq N n _ hn, gd_true (decide_eq_true (by omega)), shl_one (2 ^ n) (by omega)]
          have hp : (2 : Nat) ^ 2 ^ n ≤ 2 ^ 32 := Nat.pow_le_pow_right (by decide) hs
          have hp1 := two_pos (2 ^ n)
          rw [show (((2 ^ 2 ^ n : Nat) : Int) - 1) = ((2 ^ 2 ^ n - 1 : Nat) : Int) by omega, w64_id (by omega) (by omega), bXor _ _ (tabw_63 _ n hn) (by omega), tabw_not]
          simp
      · rw [wf_nonnil ha, cond_false, ih A ha (by omega)]
        simp only [letsF, ev, wf_nonnil ha, Int.toNat_natCast]
        rw [if_neg (by decide)]
        have e33 : ((m : Int) == 33) = false := by rcases bn_cases h with rfl | rfl | rfl <;> rfl
        have e33' : (m == 33) = false := by rcases bn_cases h with rfl | rfl | rfl <;> rfl
        cases hl : letsF n A with
        | false => rfl
        | true =>
          rw [cond_true, Bool.not_true, cond_false, e33, cond_false, ih C hc (by omega), e33', cond_false, Bool.true_and]
          cases hl2 : letsF n C with
          | false => rfl
          | true =>
            rw [cond_true, Bool.not_true, cond_false, cond_true, bAnd _ _ (tabw_63 _ n hn) (tabw_63 _ n hn), bOr _ _ (tabw_63 _ n hn) (tabw_63 _ n hn), bXor _ _ (tabw_63 _ n hn) (tabw_63 _ n hn), tabw_and, tabw_or, tabw_xor]
            rcases bn_cases h with rfl | rfl | rfl <;> simp

theorem l5Value_eq (N : Nat) (hN : 1048576 < N) (l : List UInt8) (hl : l.length ≤ 60) (x : Nat) (hx : x < 32) : ∀ (F : Nat) (T : Tr) (i : Nat) (r : List UInt8), wf T → l.drop i = tx T ++ r → (tx T).length ≤ F → i ≤ l.length → ∀ k : Bool → Option β,
    zj57 N F (B l) (i : Int) (x : Int) k = k (ev x T) := by
  intro F
  induction F with
  | zero => intro T i r h _ hF; have := tx_pos h; omega
  | succ F ih =>
    intro T i r h hd hF hi k
    cases T with
    | nil => exact h.elim
    | node a b A C =>
      obtain ⟨rfl, n, rfl, hn, h⟩ := h
      obtain ⟨hlt, hcn, hr⟩ := node_bt hn hd
      have hsub : (tx (.node n 0 A C)).length + r.length = l.length - i := by rw [← List.length_append, ← hd, List.length_drop]
      simp only [tx, List.length_cons, List.length_append] at hF hsub
      simp only [zj57, zj56, B_size]
      rw [gd_true (decide_eq_true (by omega)), gd_true (decide_eq_true (by omega)), hcn]
      rw [show w64 ((i : Int) + 1) = ((i + 1 : Nat) : Int) by rw [w64_id] <;> omega]
      have g33 := natb n 33; have g38 := natb n 38; have g124 := natb n 124; have g94 := natb n 94; have g48 := natb n 48; have g49 := natb n 49
      simp only [Int.cast_ofNat_Int] at g33 g38 g124 g94 g48 g49
      rw [g33, g38, g124, g94, g48, g49]
      rcases h with ⟨h1, rfl, rfl⟩ | ⟨rfl, h1, rfl⟩ | ⟨h1, h2, h3⟩
      · simp only [ev, isNil_nil, if_true, Int.toNat_natCast]
        rcases lf_cases h1 with h2 | ⟨h2, h3⟩
        · have h2' := h2
          simp only [lt5, Bool.and_eq_true, decide_eq_true_eq] at h2'
          rw [beq_eq_false_iff_ne.2 (show n ≠ 33 by omega), beq_eq_false_iff_ne.2 (show n ≠ 38 by omega), beq_eq_false_iff_ne.2 (show n ≠ 124 by omega), beq_eq_false_iff_ne.2 (show n ≠ 94 by omega), beq_eq_false_iff_ne.2 (show n ≠ 48 by omega), beq_eq_false_iff_ne.2 (show n ≠ 49 by omega)]
          have ew : w8 ((n : Int) - 97) = ((n - 97 : Nat) : Int) := by rw [show (n : Int) - 97 = ((n - 97 : Nat) : Int) by omega, w8_small _ (by omega)]
          simp only [cond_false, h2, cond_true, ew]
          rw [gd_true (decide_eq_true (by omega)), gd_true (decide_eq_true (by omega)), gd_true (decide_eq_true (by omega)), bit_w x _ (by omega), bw_eq1]
        · rcases h3 with rfl | rfl <;> rfl
      · have hr' : l.drop (i + 1) = tx A ++ r := by simpa [tx] using hr
        simp only [ev, wf_nonnil h1]
        rw [if_neg (by decide)]
        refine (ih A (i + 1) r h1 hr' (by omega) (by omega) fun b => k (!b)).trans ?_
        rfl
      · have hpt : pt N (l.drop (i + 1)) = some (A, tx C ++ r) := by rw [hr]; exact pt_tx A N _ h2 (by omega)
        obtain ⟨s1, s2, s3, s4⟩ := suffix_at hr (by omega)
        have hend : ∀ k' : Int → Option β, zj54 N (B l) ((i + 1 : Nat) : Int) k' = k' ((l.length - (tx C ++ r).length : Nat) : Int) := fun k' => by
          show zj53 N N (B l) _ _ = _
          rw [l5End_eq N l (by omega) N (i + 1) (by omega) (by omega), hpt]
        have p1 := fun k' => ih A (i + 1) _ h2 hr (by omega) (by omega) k'
        have p2 := fun k' => ih C _ r h3 s1 (by omega) s2 k'
        simp only [ev, wf_nonnil h2, Int.toNat_natCast]
        rw [if_neg (by decide)]
        rcases bn_cases h1 with rfl | rfl | rfl
        · refine (p1 _).trans ?_
          show cond (ev x A) _ _ = _
          rw [hend, p2]
          cases ev x A <;> rfl
        · refine (p1 _).trans ?_
          show cond (ev x A) _ _ = _
          rw [hend, p2]
          cases ev x A <;> rfl
        · refine (p1 _).trans ?_
          show zj54 N (B l) ((i + 1 : Nat) : Int) _ = _
          rw [hend, p2]
          cases ev x A <;> cases ev x C <;> rfl

theorem Formula_both (N : Nat) (hN : 1048576 < N) (n : Nat) (hn : n ≤ 5) (l : List UInt8) :
    ∃ (n' w : Int) (b : Bool), (∀ K : Int → Int → Bool → Option β, zj63 N (B l) (n : Int) K = K n' w b) ∧ (∀ K : Int → Int → Bool → Option β, zj144 N (B l) (n : Int) K = K n' w b) := by
  have h1in : ∀ K : Bool → Option β, zj0 N (n : Int) 0 5 K = K true := fun K => by
    rw [spec_l1In_eq, decide_eq_true (by omega : (0 : Int) ≤ (n : Int)), decide_eq_true (by omega : (n : Int) ≤ 5)]
    rfl
  have hbits : ∀ K : Bool → Option β, zj71 N (n : Int) K = K true := fun K => by
    unfold zj71
    rw [decide_eq_true (by omega : (n : Int) ≥ 0), cond_true, decide_eq_true (by omega : (n : Int) ≤ 5)]
  have hs := size_le hn
  have hz : (0 : Int) ≤ ((2 ^ n : Nat) : Int) := Int.natCast_nonneg _
  have hform : ∀ K : Bool → Option β, zj55 N (B l) K = K (isForm l) := fun K => spec_IsForm_eq N hN l K
  have hread : ∀ K : Tr → Bool → Option β, l.length ≤ 60 → zj136 N (B l) K = match pt 1048577 l with | some (T, r) => K T (r == []) | none => K .nil false := fun K h60 => by
    unfold zj136 zj135
    rw [B_size, decide_eq_false (by omega), cond_false, readPart_eq N N l (by omega), pt_fu N hN l h60]
    cases hp : pt 1048577 l with
    | none => rfl
    | some p =>
      obtain ⟨T, r⟩ := p
      have hw := wf_nonnil (pt_wf _ _ _ _ hp).1
      dsimp only
      rw [hw, Bool.not_false, cond_true, B_toList, B_nil, B_toList]
  by_cases h60 : l.length ≤ 60
  · cases hp : pt 1048577 l with
    | none =>
      refine ⟨0, 0, false, fun K => ?_, fun K => ?_⟩
      · unfold zj63
        rw [hform]
        unfold isForm
        rw [hp, Bool.and_false]
        rfl
      · unfold zj144
        rw [hread _ h60, hp]
        rfl
    | some p =>
      obtain ⟨T, r⟩ := p
      obtain ⟨hw, htx⟩ := pt_wf _ _ _ _ hp
      cases r with
      | cons c r =>
        refine ⟨0, 0, false, fun K => ?_, fun K => ?_⟩
        · unfold zj63
          rw [hform]
          unfold isForm
          rw [hp, Bool.and_false]
          rfl
        · unfold zj144
          rw [hread _ h60, hp]
          rfl
      | nil =>
        rw [List.append_nil] at htx
        have eS : ∀ K : Int → Int → Bool → Option β, zj63 N (B l) (n : Int) K = cond (letsF n T) (K (n : Int) (tabw (fun x => ev x T) (2 ^ n) : Int) true) (K 0 0 false) := fun K => by
          unfold zj63
          rw [hform]
          have hf : isForm l = true := by unfold isForm; rw [hp, decide_eq_true h60]; rfl
          rw [hf, Bool.not_true, cond_false, h1in, Bool.not_true, cond_false]
          have outer := fun (k1 : ByteArray → Int → Int → Int → Option β) => loop_all (fun F i => zj60 N F (B l) (n : Int) (i : Int) 0 0 (fun e0 e1 e2 => K e1 e2 e0) k1) (fun i => okF n (at8 l i)) l.length (K 0 0 false) (k1 (B l) (n : Int) 0 0) (fun F i hi => by
            simp only [zj60, zj59, B_size]
            have hb := (at8 l i).toNat_lt
            rw [decide_eq_true (by omega : (i : Int) < (l.length : Int)), cond_true, gd_true (decide_eq_true (by omega)), gd_true rfl, bt_at8 l i hi, gd_true (decide_eq_true (by omega)), gd_true rfl, gd_true (decide_eq_true (by omega)), gd_true rfl, w64_succ i (by omega)]
            unfold okF
            by_cases h97 : 97 ≤ (at8 l i).toNat
            · rw [decide_eq_true (by omega : ((at8 l i).toNat : Int) ≥ 97), cond_true, sub97 _ h97 (by omega), decide_eq_true h97]
              by_cases h101 : (at8 l i).toNat ≤ 101
              · rw [decide_eq_true (by omega : ((at8 l i).toNat : Int) ≤ 101), cond_true, decide_eq_true h101]
                by_cases hlt : (at8 l i).toNat - 97 < n
                · rw [decide_eq_false (by omega), decide_eq_true hlt]; rfl
                · rw [decide_eq_true (by omega), decide_eq_false hlt]; rfl
              · rw [decide_eq_false (by omega : ¬ ((at8 l i).toNat : Int) ≤ 101), cond_false, decide_eq_false h101]; rfl
            · rw [decide_eq_false (by omega : ¬ ((at8 l i).toNat : Int) ≥ 97), cond_false, decide_eq_false h97]; rfl) (fun F => by
            simp only [zj60, zj59, B_size]
            rw [decide_eq_false (by omega), cond_false]) N (by omega)
          refine (outer _).trans ?_
          rw [allTo_all (okF n) l]
          have hall : l.all (okF n) = letsF n T := by rw [← letsF_all n T hw, ← htx]
          rw [hall]
          cases letsF n T with
          | false => rfl
          | true =>
            rw [cond_true, cond_true]
            refine loop_st (fun F x => zj62 N F (B l) (n : Int) (tabw (fun x => ev x T) x : Int) (x : Int) 0 0 fun e0 e1 _ _ => K e0 e1 true) (2 ^ n) _ (fun F x hx => ?_) (fun F => ?_) N 0 (by omega) (by omega)
            · simp only [zj62, zj61]
              rw [gd_true (decide_eq_true (by omega)), shl_one n (by omega), decide_eq_true (by omega : (x : Int) < ((2 ^ n : Nat) : Int)), cond_true]
              have hv := fun k => l5Value_eq (β := β) N hN l h60 x (by omega) N T 0 [] hw (by rw [List.drop_zero, List.append_nil]; exact htx) (by rw [← htx]; omega) (by omega) k
              simp only [Int.natCast_zero] at hv
              unfold zj58
              rw [hv, gd_true (decide_eq_true (by omega)), w64_succ x (by omega), tabw_step _ x (by omega)]
              cases hx1 : ev x T with
              | true => rw [cond_true, tabw_yes (g := fun x => ev x T) hx1]
              | false => rw [cond_false, tabw_no (g := fun x => ev x T) hx1]
            · simp only [zj62, zj61]
              rw [gd_true (decide_eq_true (by omega)), shl_one n (by omega), decide_eq_false (by omega : ¬ ((2 ^ n : Nat) : Int) < ((2 ^ n : Nat) : Int)), cond_false]
        have eI : ∀ K : Int → Int → Bool → Option β, zj144 N (B l) (n : Int) K = cond (letsF n T) (K (n : Int) (tabw (fun x => ev x T) (2 ^ n) : Int) true) (K 0 0 false) := fun K => by
          unfold zj144 zj143
          rw [hread _ h60, hp]
          dsimp only
          rw [show (([] : List UInt8) == []) = true from rfl, Bool.not_true, cond_false, hbits, Bool.not_true, cond_false, part_table_eq N hN n hn N T hw (by rw [← htx]; omega)]
        cases hlt : letsF n T with
        | true => exact ⟨_, _, true, fun K => by rw [eS, hlt, cond_true], fun K => by rw [eI, hlt, cond_true]⟩
        | false => exact ⟨0, 0, false, fun K => by rw [eS, hlt, cond_false], fun K => by rw [eI, hlt, cond_false]⟩
  · refine ⟨0, 0, false, fun K => ?_, fun K => ?_⟩
    · unfold zj63
      rw [hform]
      unfold isForm
      rw [decide_eq_false h60]
      rfl
    · unfold zj144 zj136
      rw [B_size, decide_eq_true (by omega), cond_true]
      rfl
end Go.Proofs.YtemihnclhcobnaaGreatDoor
namespace Go.Proofs.YtemihnclhcobnaaGreatDoor
open Go.Rv
set_option linter.unusedVariables false
variable {β : Type}
theorem Sum_table (N : Nat) (hN : 1048576 < N) (n : Nat) (hn : n ≤ 5) (l : List UInt8) :
    ∃ (n' w : Int) (b : Bool), (∀ K : Int → Int → Bool → Option β, (zj30 N (n : Int) (B l) fun r13 r14 => cond (!r14) (K 0 0 false) (zj36 N (n : Int) r13 fun r15 r16 r17 => K r15 r16 r17)) = K n' w b) ∧
      (∀ K : Int → Int → Bool → Option β, (zj121 N (n : Int) (B l) fun r13 r14 => cond (!r14) (K 0 0 false) (zj123 N (n : Int) r13 fun r15 r16 r17 => K r15 r16 r17)) = K n' w b) := by
  obtain ⟨o, b, ho, hg, e1, e2⟩ := Sum_both (β := β) N hN n l
  have hg := hg n rfl hn
  cases b with
  | false => exact ⟨0, 0, false, fun K => by rw [e1]; rfl, fun K => by rw [e2]; rfl⟩
  | true => exact ⟨_, _, true, fun K => by rw [e1, Bool.not_true, cond_false, spec_TableOfTerms_n N hN n hn o (by omega) hg], fun K => by rw [e2, Bool.not_true, cond_false, impl_TableOfTerms_n N hN n hn o (by omega) hg]⟩

theorem Read_both (N : Nat) (hN : 1048576 < N) (a : List UInt8) (a1 : Int) (l : List UInt8) (hl : l.length ≤ 1048576) :
    ∃ (n' w : Int) (b : Bool), (∀ K : Int → Int → Bool → Option β, zj64 N (B a) a1 (B l) K = K n' w b) ∧ (∀ K : Int → Int → Bool → Option β, zj145 N (B a) a1 (B l) K = K n' w b) := by
  by_cases h0 : 0 ≤ a1 ∧ a1 ≤ 4
  · obtain ⟨n, rfl⟩ := Int.eq_ofNat_of_zero_le h0.1
    have hn : n ≤ 4 := by omega
    have h1in : ∀ K : Bool → Option β, zj0 N (n : Int) 0 4 K = K true := fun K => by
      rw [spec_l1In_eq, decide_eq_true (by omega : (0 : Int) ≤ (n : Int)), decide_eq_true (by omega : (n : Int) ≤ 4)]
      rfl
    unfold zj64 zj145
    simp only [h1in, Bool.not_true, cond_false, decide_eq_false (by omega : ¬ (n : Int) < 0), decide_eq_false (by omega : ¬ (n : Int) > 4)]
    cases (B a).toList == (strOf [116, 97, 98, 108, 101]).toList with
    | true =>
      obtain ⟨n', w, b, e1, e2⟩ := Table_both (β := β) N hN l
      simp only [cond_true, e1, e2]
      cases b with
      | false => exact ⟨0, 0, false, fun K => rfl, fun K => rfl⟩
      | true =>
        cases hb : n' != (n : Int) with
        | true => exact ⟨0, 0, false, fun K => rfl, fun K => rfl⟩
        | false => exact ⟨n', w, true, fun K => rfl, fun K => rfl⟩
    | false =>
      simp only [cond_false]
      cases (B a).toList == (strOf [97, 110, 102]).toList with
      | true => exact Anf_both N hN n (by omega) l
      | false =>
        simp only [cond_false]
        cases (B a).toList == (strOf [115, 117, 109]).toList with
        | true => exact Sum_table N hN n (by omega) l
        | false =>
          simp only [cond_false]
          cases (B a).toList == (strOf [116, 114, 101, 101]).toList with
          | true => exact Tree_both N hN n (by omega) l hl
          | false =>
            simp only [cond_false]
            cases (B a).toList == (strOf [102, 111, 114, 109, 117, 108, 97]).toList with
            | true => exact Formula_both N hN n (by omega) l
            | false => exact ⟨0, 0, false, fun K => rfl, fun K => rfl⟩
  · refine ⟨0, 0, false, fun K => ?_, fun K => ?_⟩
    · unfold zj64
      have : (decide (0 ≤ a1) && decide (a1 ≤ 4)) = false := by
        rw [Bool.and_eq_false_iff, decide_eq_false_iff_not, decide_eq_false_iff_not]; omega
      rw [spec_l1In_eq, this]
      rfl
    · unfold zj145
      by_cases h : a1 < 0
      · rw [decide_eq_true h]; rfl
      · rw [decide_eq_false h, decide_eq_true (by omega : a1 > 4)]; rfl

theorem law_ReadAs (N : Nat) (hN : 1048576 < N) (a : ByteArray) (a1 : Int) (s : ByteArray) (ha : (a.size : Int) ≤ 9223372036854775807) (h1 : -9223372036854775808 ≤ a1 ∧ a1 ≤ 9223372036854775807) (hs : (s.size : Int) ≤ 9223372036854775807) (k : Bool → Option β) :
    laws_FnExactReadAs N a a1 s k = k true := by
  unfold laws_FnExactReadAs
  by_cases h : (a.size : Int) > 1048576
  · rw [decide_eq_true h, cond_true]
  rw [decide_eq_false h, cond_false]
  by_cases h : (s.size : Int) > 1048576
  · rw [decide_eq_true h, cond_true]
  rw [decide_eq_false h, cond_false, ← B_data a, ← B_data s]
  have hl : s.data.toList.length ≤ 1048576 := by
    have : s.size = s.data.toList.length := by rw [← B_size, B_data]
    omega
  obtain ⟨n', w, b, e1, e2⟩ := Read_both (β := β) N hN a.data.toList a1 s.data.toList hl
  rw [e1, e2]
  unfold zj146
  rw [bne_self_eq_false, bne_self_eq_false]
  simp only [cond_false, Bool.not_true, beq_self_eq_true]
end Go.Proofs.YtemihnclhcobnaaGreatDoor
