/- Plain laws of the texts. -/
import Derived.Test.YtddflpokemgnmaaGreatDoorP91
import Derived.Lib.IndexBytes
import Derived.Lib.Join
namespace Go.Proofs.YtddflpokemgnmaaGreatDoor
open Go.Rv
set_option linter.unusedVariables false
variable {β : Type}
def spl (c : UInt8) : List UInt8 → List UInt8 → List (List UInt8)
  | acc, [] => [acc]
  | acc, b :: l => if b = c then acc :: spl c [] l else spl c (acc ++ [b]) l
theorem index_hit (c : UInt8) (l : List UInt8) : ∀ acc : List UInt8, c ∉ acc → Lib.indexByte (acc ++ c :: l) c = (acc.length : Int)
  | [], _ => by simp [Lib.indexByte]
  | b :: acc, h => by
    have h1 : ¬ (b == c) = true := fun e => h (by rw [← eq_of_beq e]; exact List.mem_cons_self ..)
    have ih := index_hit c l acc fun h' => h (List.mem_cons_of_mem _ h')
    rw [List.cons_append, Lib.indexByte, if_neg h1, ih, if_neg (by simp), List.length_cons]
    omega
theorem splitK_spl (c : UInt8) : ∀ (l acc : List UInt8), c ∉ acc → Lib.splitK [c] 0 (l.count c) (acc ++ l) = spl c acc l
  | [], acc, h => by rw [List.count_nil, List.append_nil]; rfl
  | b :: l, acc, h => by
    by_cases e : b = c
    · subst e
      have hd : (acc ++ b :: l).drop (acc.length + 1) = l := by
        rw [show acc ++ b :: l = (acc ++ [b]) ++ l by simp]
        exact List.drop_left' (by simp)
      have := splitK_spl b l [] (by simp)
      rw [List.nil_append] at this
      rw [List.count_cons_self, spl, if_pos rfl, Lib.splitK, Lib.index_one, index_hit b l acc h, if_neg (by simp)]
      simp only [Int.toNat_natCast, Nat.add_zero, List.length_cons, List.length_nil, Nat.zero_add]
      rw [hd, List.take_left, this]
    · rw [List.count_cons_of_ne (by simpa using e), spl, if_neg e, ← splitK_spl c l (acc ++ [b]) (by
        intro h'
        rcases List.mem_append.1 h' with h' | h'
        · exact h h'
        · simp at h'; exact e h'.symm)]
      simp
theorem splitB_spl (s : ByteArray) (c : UInt8) : Lib.splitB ⟨#[c]⟩ 0 (Lib.countB s ⟨#[c]⟩) s = (spl c [] s.data.toList).map B := by
  have h := Lib.splitB_data ⟨#[c]⟩ 0 (Lib.countB s ⟨#[c]⟩) s
  have e : Lib.countB s ⟨#[c]⟩ = s.data.toList.count c := Lib.count_one c _
  have k := splitK_spl c s.data.toList [] (by simp)
  rw [List.nil_append] at k
  rw [e] at h ⊢
  have h : (Lib.splitB ⟨#[c]⟩ 0 (s.data.toList.count c) s).map (·.data.toList) = spl c [] s.data.toList := h.trans k
  rw [← h, List.map_map]
  have : (B ∘ fun x : ByteArray => x.data.toList) = id := by
    funext x
    exact B_data x
  rw [this, List.map_id]

def okT (n m v : Nat) : Bool := decide (m < 2 ^ n) && (v &&& m == v)
theorem andNot_sm : ∀ v : Nat, v < 32 → ∀ m : Nat, m < 32 → (bits .andNot .i64 (v : Int) (m : Int) == 0) = (v &&& m == v) := by decide +kernel
theorem and_sm : ∀ v : Nat, v < 32 → ∀ m : Nat, m < 32 → (bits .and .i64 (v : Int) (m : Int) == (v : Int)) = (v &&& m == v) := by decide +kernel
theorem sz5 : ∀ n : Nat, n ≤ 5 → 1 ≤ 2 ^ n ∧ 2 ^ n ≤ 32 := by decide +kernel
theorem spec_IsTerm_n (N n m v : Nat) (hn : n ≤ 5) (hm : m < 32) (hv : v < 32) (K : Bool → Option β) : zj76 N (n : Int) (m : Int) (v : Int) K = K (okT n m v) := by
  have hs := sz5 n hn
  unfold zj76 okT
  rw [spec_l1In_eq, decide_eq_true (by omega : (0 : Int) ≤ (n : Int)), decide_eq_true (by omega : (n : Int) ≤ 5), Bool.and_self, cond_true, gd_true rfl, shl_one n (by omega), w64_id (by omega) (by omega), spec_l1In_eq, decide_eq_true (by omega : (0 : Int) ≤ (m : Int)), Bool.true_and]
  by_cases h : m < 2 ^ n
  · rw [decide_eq_true (by omega), decide_eq_true h, cond_true, spec_l1In_eq, decide_eq_true (by omega : (0 : Int) ≤ (v : Int)), Bool.true_and, and_sm v hv m hm, Bool.true_and]
    cases hvm : (v &&& m == v) with
    | true =>
      have : v ≤ m := by rw [← eq_of_beq hvm]; exact Nat.and_le_right
      rw [decide_eq_true (by omega)]; rfl
    | false => cases decide ((v : Int) ≤ (m : Int)) <;> rfl
  · rw [decide_eq_false (by omega), decide_eq_false h]; rfl
theorem impl_IsTerm_n (N n m v : Nat) (hn : n ≤ 5) (hm : m < 32) (hv : v < 32) (K : Bool → Option β) : zj55 N (n : Int) (m : Int) (v : Int) K = K (okT n m v) := by
  have hs := sz5 n hn
  unfold zj55 zj53 zj54 okT
  rw [decide_eq_true (by omega : (n : Int) ≥ 0), decide_eq_true (by omega : (n : Int) ≤ 5), cond_true]
  dsimp only
  rw [cond_true, decide_eq_true (by omega : (m : Int) ≥ 0), cond_true, gd_true rfl, shl_one n (by omega)]
  rw [decide_eq_true (by omega : (v : Int) ≥ 0), cond_true, andNot_sm v hv m hm]
  by_cases h : m < 2 ^ n
  · rw [decide_eq_true (by omega), decide_eq_true h, cond_true, Bool.true_and]
  · rw [decide_eq_false (by omega), decide_eq_false h]; rfl

def ft (m v : Nat) : Nat → List UInt8
  | 0 => []
  | i + 1 => ft m v i ++ cond (m.testBit i) (cond (v.testBit i) [UInt8.ofNat (97 + i)] [33, UInt8.ofNat (97 + i)]) []
theorem ft_len (m v : Nat) : ∀ i, (ft m v i).length ≤ 2 * i
  | 0 => Nat.le_refl _
  | i + 1 => by
    have := ft_len m v i
    simp only [ft, List.length_append]
    cases m.testBit i <;> cases v.testBit i <;> simp <;> omega
def ftb (n m v : Nat) : List UInt8 := cond (okT n m v) (cond (ft m v n == []) [49] (ft m v n)) []
theorem letter_ext : ∀ i, i < 5 → (strOf [97, 98, 99, 100, 101]).extract i (i + 1) = B [UInt8.ofNat (97 + i)] := by decide +kernel
theorem letters_size : (((strOf [97, 98, 99, 100, 101]).size : Nat) : Int) = 5 := by decide +kernel
theorem bit0 (w y : Nat) (hw : w < 32) : (bits .and .i64 (shrI .i64 (w : Int) (y : Int)) 1 == 0) = !w.testBit y := by
  rw [bit_at w y (by omega)]
  cases w.testBit y <;> rfl
theorem spec_FormatTerm_n (N : Nat) (hN : 1048576 < N) (n m v : Nat) (hn : n ≤ 5) (hm : m < 32) (hv : v < 32) (K : ByteArray → Option β) : zj143 N (n : Int) (m : Int) (v : Int) K = K (B (ftb n m v)) := by
  unfold zj143 ftb
  have he : (B ([] : List UInt8)).toList = [] := B_toList _
  cases hok : okT n m v with
  | false =>
    obtain ⟨G, rfl⟩ : ∃ G, N = G + 1 := ⟨N - 1, by omega⟩
    simp only [zj142, zj141]
    rw [spec_IsTerm_n _ n m v hn hm hv, hok, cond_false, beq_self_eq_true, cond_true, spec_IsTerm_n _ n m v hn hm hv, hok]
    rfl
  | true =>
    have main := loop_st (fun F i => zj142 N F (n : Int) (B (ft m v i)) (i : Int) (m : Int) (v : Int) fun e0 e1 e2 e3 => cond (e1.toList == ByteArray.empty.toList) (zj76 N e0 e2 e3 fun r6 => cond r6 (K (strOf [49])) (K e1)) (K e1)) n
      (K (B (cond (ft m v n == []) [49] (ft m v n)))) (fun F i hi => ?_) (fun F => ?_) N 0 (by omega) (by omega)
    · exact main
    · have hl := ft_len m v i
      simp only [zj142, zj141]
      rw [spec_IsTerm_n N n m v hn hm hv, hok, cond_true, decide_eq_true (by omega : (i : Int) < (n : Int)), cond_true, gd_true (decide_eq_true (by omega)), bit0 m i hm, bit0 v i hv, w64_succ i (by omega), letters_size, Int.toNat_natCast, Int.toNat_natCast, letter_ext i (by omega)]
      simp only [B_strOf, B_app, B_size, List.map_cons, List.map_nil, ft]
      cases m.testBit i with
      | false => rw [Bool.not_false, cond_true, cond_false, List.append_nil]
      | true =>
        rw [Bool.not_true, cond_false, gd_true (decide_eq_true (by omega)), cond_true]
        cases v.testBit i with
        | false =>
          rw [Bool.not_false, cond_true, gd_true (decide_eq_true (by simp; omega)), gd_true (decide_eq_true (by omega)), gd_true (decide_eq_true (by omega)), gd_true (decide_eq_true (by omega)), gd_true (decide_eq_true (by omega)), gd_true (decide_eq_true (by simp; omega)), cond_false]
          simp only [List.append_assoc]
          rfl
        | true =>
          rw [Bool.not_true, cond_false, gd_true (decide_eq_true (by omega)), gd_true (decide_eq_true (by omega)), gd_true (decide_eq_true (by omega)), gd_true (decide_eq_true (by omega)), gd_true (decide_eq_true (by simp; omega)), cond_true]
    · simp only [zj142, zj141]
      rw [spec_IsTerm_n N n m v hn hm hv, hok, cond_true, decide_eq_false (by omega), cond_false, B_toList, show ByteArray.empty.toList = [] from he, spec_IsTerm_n N n m v hn hm hv, hok, cond_true]
      cases ft m v n == [] <;> rfl
theorem impl_FormatTerm_n (N : Nat) (hN : 1048576 < N) (n m v : Nat) (hn : n ≤ 5) (hm : m < 32) (hv : v < 32) (K : ByteArray → Option β) : zj127 N (n : Int) (m : Int) (v : Int) K = K (B (ftb n m v)) := by
  unfold zj127 ftb
  rw [impl_IsTerm_n N n m v hn hm hv]
  cases hok : okT n m v with
  | false => rfl
  | true =>
    rw [Bool.not_true, cond_false]
    have main := loop_st (fun F i => zj126 N F (n : Int) (i : Int) (m : Int) (v : Int) ((ft m v i).map fun b => (b.toNat : Int)) fun e => cond ((e.length : Int) == 0) (K (strOf [49])) (K (strOf e))) n
      (K (B (cond (ft m v n == []) [49] (ft m v n)))) (fun F i hi => ?_) (fun F => ?_) N 0 (by omega) (by omega)
    · exact main
    · have hl := ft_len m v i
      have hw : w8 (97 + w8 (i : Int)) = ((97 + i : Nat) : Int) := by
        rw [w8_small i (by omega), show (97 : Int) + (i : Int) = ((97 + i : Nat) : Int) by omega, w8_small _ (by omega)]
      have hu : ((UInt8.ofNat (97 + i)).toNat : Int) = ((97 + i : Nat) : Int) := by
        rw [UInt8.toNat_ofNat']
        omega
      simp only [zj126, zj125]
      rw [decide_eq_true (by omega : (i : Int) < (n : Int)), cond_true, gd_true (decide_eq_true (by omega)), bit0 m i hm, bit0 v i hv, w64_succ i (by omega), hw]
      simp only [ft, List.map_append]
      cases m.testBit i with
      | false => rw [Bool.not_false, cond_true, cond_false, List.map_nil, List.append_nil]
      | true =>
        rw [Bool.not_true, cond_false, gd_true (decide_eq_true (by omega)), cond_true]
        cases v.testBit i with
        | false =>
          rw [Bool.not_false, cond_true, gd_true (decide_eq_true (by simp; omega)), gd_true (decide_eq_true (by simp; omega)), cond_false]
          simp only [List.map_cons, List.map_nil, hu, List.nil_append, List.append_assoc]
          rfl
        | true =>
          rw [Bool.not_true, cond_false, gd_true (decide_eq_true (by simp; omega)), cond_true]
          simp only [List.map_cons, List.map_nil, hu, List.nil_append]
    · simp only [zj126, zj125]
      rw [decide_eq_false (by omega), cond_false, B_strOf (List.map _ _), List.map_map]
      have : ((fun x : Int => UInt8.ofNat x.toNat) ∘ fun b : UInt8 => (b.toNat : Int)) = id := by
        funext b
        simp
      rw [this, List.map_id]
      cases hft : ft m v n with
      | nil => rfl
      | cons b l => rfl
end Go.Proofs.YtddflpokemgnmaaGreatDoor
namespace Go.Proofs.YtddflpokemgnmaaGreatDoor
open Go.Rv
set_option linter.unusedVariables false
variable {β : Type}
def scn : List UInt8 → Bool → Nat → Nat → Nat × Nat
  | [], _, m, v => (m, v)
  | b :: l, f, m, v =>
    if b.toNat = 33 then scn l true m v
    else if 97 ≤ b.toNat ∧ b.toNat < 102 then scn l false (m ||| 2 ^ (b.toNat - 97)) (cond f v (v ||| 2 ^ (b.toNat - 97)))
    else scn l f m v
theorem pow5 {k : Nat} (h : k < 5) : 2 ^ k < 2 ^ 5 := Nat.pow_lt_pow_right (by decide) h
theorem or5 {a b : Nat} (ha : a < 32) (hb : b < 2 ^ 5) : a ||| b < 32 := Nat.or_lt_two_pow (n := 5) ha hb
theorem scn_lt : ∀ (l : List UInt8) (f : Bool) (m v : Nat), m < 32 → v < 32 → (scn l f m v).1 < 32 ∧ (scn l f m v).2 < 32
  | [], f, m, v, hm, hv => ⟨hm, hv⟩
  | b :: l, f, m, v, hm, hv => by
    unfold scn
    split
    · exact scn_lt l _ _ _ hm hv
    · split
      · rename_i h
        have hp := pow5 (k := b.toNat - 97) (by omega)
        refine scn_lt l _ _ _ (or5 hm hp) ?_
        cases f
        · exact or5 hv hp
        · exact hv
      · exact scn_lt l _ _ _ hm hv
def goodB (n : Nat) (b : UInt8) : Bool := Nat.beq b.toNat 33 || (decide (97 ≤ b.toNat) && decide (b.toNat < 97 + n))
def good (n : Nat) (l : List UInt8) : Bool := l.all (goodB n)
theorem ft_good (n m v : Nat) (hn : n ≤ 5) : ∀ i, i ≤ n → good n (ft m v i) = true
  | 0, _ => rfl
  | i + 1, h => by
    have h1 := ft_good n m v hn i (by omega)
    have hb : goodB n (UInt8.ofNat (97 + i)) = true := by
      have e : (UInt8.ofNat (97 + i)).toNat = 97 + i := by rw [UInt8.toNat_ofNat']; omega
      unfold goodB
      rw [e, decide_eq_true (by omega), decide_eq_true (by omega)]
      simp
    unfold good at h1 ⊢
    rw [ft, List.all_append, h1, Bool.true_and]
    cases m.testBit i <;> cases v.testBit i <;> simp only [cond_true, cond_false, List.all_cons, List.all_nil, hb, Bool.and_true] <;> rfl

theorem bt_mid (pre rest : List UInt8) (b : UInt8) : bt (B (pre ++ b :: rest)) (pre.length : Int) = (b.toNat : Int) := by
  rw [B_bt _ pre.length (by simp)]
  simp
theorem eq33 (b : UInt8) : ((b.toNat : Int) == 33) = decide (b.toNat = 33) := by
  rw [Bool.eq_iff_iff, beq_iff_eq, decide_eq_true_eq]
  omega

theorem impl_scan (N n : Nat) (l : List UInt8) (hl : l.length ≤ 1000) (K0 : Int → ByteArray → Int → Int → Int → Int → Option β) : ∀ (rest pre : List UInt8) (F : Nat) (f : Bool) (m v : Nat), pre ++ rest = l → rest.length < F → m < 32 → v < 32 →
    zj135 N F (n : Int) (B l) (cond f 0 1) (l.length : Int) (pre.length : Int) 0 0 (m : Int) (v : Int) K0 = K0 (n : Int) (B l) 0 0 ((scn rest f m v).1 : Int) ((scn rest f m v).2 : Int) := by
  intro rest
  induction rest with
  | nil =>
    intro pre F f m v hp hF hm hv
    obtain ⟨G, rfl⟩ : ∃ G, F = G + 1 := ⟨F - 1, by simp at hF; omega⟩
    have hlen : l.length = pre.length := by rw [← hp]; simp
    simp only [zj135, zj134, scn]
    rw [decide_eq_false (by omega), cond_false]
  | cons b rest ih =>
    intro pre F f m v hp hF hm hv
    simp only [List.length_cons] at hF
    obtain ⟨G, rfl⟩ : ∃ G, F = G + 1 := ⟨F - 1, by omega⟩
    have hlen : l.length = pre.length + (rest.length + 1) := by rw [← hp]; simp
    have hbt : bt (B l) (pre.length : Int) = (b.toNat : Int) := by rw [← hp]; exact bt_mid pre rest b
    have hb := b.toNat_lt
    have next := fun f m v hm hv => ih (pre ++ [b]) G f m v (by rw [← hp]; simp) (by omega) hm hv
    simp only [List.length_append, List.length_cons, List.length_nil, Nat.zero_add] at next
    simp only [zj135, zj134, hbt, B_size, zj133, eq33]
    rw [decide_eq_true (by omega : (pre.length : Int) < (l.length : Int)), cond_true, gd_true (decide_eq_true (by omega)), gd_true rfl, w64_succ _ (by omega)]
    unfold scn
    by_cases h33 : b.toNat = 33
    · rw [decide_eq_true h33, cond_true, if_pos h33]
      exact next true m v hm hv
    · rw [decide_eq_false h33, cond_false, if_neg h33, gd_true (decide_eq_true (by omega)), gd_true rfl]
      by_cases h97 : 97 ≤ b.toNat
      · rw [decide_eq_true (by omega : (b.toNat : Int) ≥ 97), cond_true]
        by_cases h102 : b.toNat < 102
        · have hp5 := pow5 (k := b.toNat - 97) (by omega)
          have hw : w8 ((b.toNat : Int) - 97) = ((b.toNat - 97 : Nat) : Int) := by
            rw [show (b.toNat : Int) - 97 = ((b.toNat - 97 : Nat) : Int) by omega, w8_small _ (by omega)]
          rw [decide_eq_true (by omega : (b.toNat : Int) < 102), cond_true, if_pos ⟨h97, h102⟩, hw, gd_true (decide_eq_true (by omega)), gd_true rfl, gd_true (decide_eq_true (by omega)), gd_true (decide_eq_true (by omega)), gd_true rfl, gd_true (decide_eq_true (by omega)), shl_one _ (by omega), bOr m _ (by omega) (by omega)]
          cases f with
          | false =>
            have e : shlI .i64 (cond false 0 1) ((b.toNat - 97 : Nat) : Int) = ((2 ^ (b.toNat - 97) : Nat) : Int) := shl_one _ (by omega)
            rw [e, bOr v _ (by omega) (by omega)]
            exact next false _ _ (or5 hm hp5) (or5 hv hp5)
          | true =>
            have e : shlI .i64 (cond true 0 1) ((b.toNat - 97 : Nat) : Int) = ((0 : Nat) : Int) := by
              have := shl_nat 0 (b.toNat - 97) (by omega) (by omega)
              rw [Nat.zero_mul] at this
              exact this
            rw [e, bOr v 0 (by omega) (by omega), Nat.or_zero]
            exact next false _ _ (or5 hm hp5) hv
        · rw [decide_eq_false (by omega), cond_false, if_neg (by omega)]
          exact next f m v hm hv
      · rw [decide_eq_false (by omega), cond_false, cond_false, if_neg (by omega)]
        exact next f m v hm hv

theorem spec_scan (N n : Nat) (hn : n ≤ 5) (l : List UInt8) (hl : l.length ≤ 1000) (h1 : l ≠ [49]) (k0 : Bool → Int → Int → Option β) (K0 : Int → ByteArray → Int → Int → Int → Int → Option β) : ∀ (rest pre : List UInt8) (F : Nat) (f : Bool) (m v : Nat), pre ++ rest = l → rest.length < F → m < 32 → v < 32 →
    zj154 N F (n : Int) (B l) f (pre.length : Int) 0 0 (m : Int) (v : Int) k0 K0 = cond (good n rest) (K0 (n : Int) (B l) 0 0 ((scn rest f m v).1 : Int) ((scn rest f m v).2 : Int)) (k0 false 0 0) := by
  have h49 : ((B l).toList == (strOf [49]).toList) = false := by
    rw [B_toList, B_strOf, B_toList]
    exact beq_eq_false_iff_ne.2 h1
  intro rest
  induction rest with
  | nil =>
    intro pre F f m v hp hF hm hv
    obtain ⟨G, rfl⟩ : ∃ G, F = G + 1 := ⟨F - 1, by simp at hF; omega⟩
    have hlen : l.length = pre.length := by rw [← hp]; simp
    simp only [zj154, zj153, scn, B_size]
    rw [decide_eq_false (by omega), cond_false]
    rfl
  | cons b rest ih =>
    intro pre F f m v hp hF hm hv
    simp only [List.length_cons] at hF
    obtain ⟨G, rfl⟩ : ∃ G, F = G + 1 := ⟨F - 1, by omega⟩
    have hlen : l.length = pre.length + (rest.length + 1) := by rw [← hp]; simp
    have hbt : bt (B l) (pre.length : Int) = (b.toNat : Int) := by rw [← hp]; exact bt_mid pre rest b
    have hb := b.toNat_lt
    have next := fun f m v hm hv => ih (pre ++ [b]) G f m v (by rw [← hp]; simp) (by omega) hm hv
    simp only [List.length_append, List.length_cons, List.length_nil, Nat.zero_add] at next
    have hg : good n (b :: rest) = (goodB n b && good n rest) := rfl
    simp only [zj154, zj153, hbt, B_size, eq33, h49, spec_l1In_eq]
    rw [decide_eq_true (by omega : (pre.length : Int) < (l.length : Int)), cond_true, Bool.not_false, cond_true, gd_true (decide_eq_true (by omega)), gd_true rfl, w64_succ _ (by omega), hg]
    unfold scn
    by_cases h33 : b.toNat = 33
    · have hgb : goodB n b = true := by unfold goodB; rw [h33]; rfl
      rw [decide_eq_true h33, cond_true, if_pos h33, hgb, Bool.true_and]
      exact next true m v hm hv
    · rw [decide_eq_false h33, cond_false, if_neg h33, gd_true (decide_eq_true (by omega)), gd_true rfl, decide_eq_true (by omega : (0 : Int) ≤ (n : Int)), decide_eq_true (by omega : (n : Int) ≤ 5), Bool.and_self, Bool.not_true, cond_false, w64_id (x := (b.toNat : Int)) (by omega) (by omega), w64_id (by omega) (by omega), w64_id (by omega) (by omega)]
      have hne : Nat.beq b.toNat 33 = false := by
        cases hq : Nat.beq b.toNat 33 with
        | false => rfl
        | true => exact absurd (Nat.eq_of_beq_eq_true hq) h33
      unfold goodB
      rw [hne, Bool.false_or]
      by_cases h97 : 97 ≤ b.toNat
      · rw [decide_eq_true (by omega : (0 : Int) ≤ (b.toNat : Int) - 97), decide_eq_true h97, Bool.true_and, Bool.true_and]
        by_cases h102 : b.toNat < 97 + n
        · have hp5 := pow5 (k := b.toNat - 97) (by omega)
          rw [decide_eq_true (by omega : (b.toNat : Int) - 97 ≤ (n : Int) - 1), decide_eq_true h102, Bool.not_true, cond_false, Bool.true_and, gd_true rfl, if_pos ⟨h97, by omega⟩, show (b.toNat : Int) - 97 = ((b.toNat - 97 : Nat) : Int) by omega, shl_one _ (by omega), bOr m _ (by omega) (by omega)]
          cases f with
          | false =>
            rw [Bool.not_false, cond_true, gd_true rfl, bOr v _ (by omega) (by omega)]
            exact next false _ _ (or5 hm hp5) (or5 hv hp5)
          | true =>
            rw [Bool.not_true, cond_false]
            exact next false _ _ (or5 hm hp5) hv
        · rw [decide_eq_false (by omega : ¬ (b.toNat : Int) - 97 ≤ (n : Int) - 1), decide_eq_false h102]
          rfl
      · rw [decide_eq_false (by omega : ¬ (0 : Int) ≤ (b.toNat : Int) - 97), decide_eq_false h97]
        rfl

def ptm (n : Nat) (l : List UInt8) : Option (Nat × Nat) :=
  if l = [49] then some (0, 0) else if l = [] then none else if ftb n (scn l false 0 0).1 (scn l false 0 0).2 = l then some (scn l false 0 0) else none
def ptK (o : Option (Nat × Nat)) (K : Int → Int → Bool → Option β) : Option β := match o with
  | some p => K (p.1 : Int) (p.2 : Int) true
  | none => K 0 0 false
theorem ftb_one (n : Nat) (hn : n ≤ 5) : ftb n 0 0 = [49] := by
  have : ∀ n, n ≤ 5 → ftb n 0 0 = [49] := by decide +kernel
  exact this n hn
theorem pt_ok {n : Nat} {l : List UInt8} {p : Nat × Nat} (hn : n ≤ 5) (h : ptm n l = some p) : okT n p.1 p.2 = true ∧ p.1 < 32 ∧ p.2 < 32 := by
  unfold ptm at h
  split at h
  · cases h
    have : ∀ n, n ≤ 5 → okT n 0 0 = true := by decide +kernel
    exact ⟨this n hn, by decide, by decide⟩
  · split at h
    · cases h
    · split at h
      · rename_i h1 h2 h3
        cases h
        refine ⟨?_, scn_lt _ _ _ _ (by decide) (by decide)⟩
        cases hok : okT n (scn l false 0 0).1 (scn l false 0 0).2 with
        | true => rfl
        | false =>
          unfold ftb at h3
          rw [hok, cond_false] at h3
          exact absurd h3.symm h2
      · cases h
theorem impl_ParseTerm_n (N : Nat) (hN : 1048576 < N) (n : Nat) (hn : n ≤ 5) (l : List UInt8) (hl : l.length ≤ 1000) (K : Int → Int → Bool → Option β) : zj136 N (n : Int) (B l) K = ptK (ptm n l) K := by
  unfold zj136 ptm
  rw [B_toList, B_strOf, B_toList, B_size]
  have he : ByteArray.empty.toList = ([] : List UInt8) := B_toList []
  by_cases h1 : l = [49]
  · subst h1
    have e := fun K => impl_FormatTerm_n (β := β) N hN n 0 0 hn (by decide) (by decide) K
    simp only [Int.natCast_zero, ftb_one n hn] at e
    rw [if_pos rfl, e, he, B_toList]
    rfl
  · obtain ⟨s1, s2⟩ := scn_lt l false 0 0 (by decide) (by decide)
    have hs := impl_scan (β := β) N n l hl (fun e0 e1 e2 e3 e4 e5 => cond (e1.toList == ByteArray.empty.toList) (K 0 0 false) (zj127 N e0 e4 e5 fun r7 => cond (!(r7.toList == e1.toList)) (K 0 0 false) (K e4 e5 true))) l [] N false 0 0 rfl (by omega) (by decide) (by decide)
    have hne : (l == List.map (fun n : Int => UInt8.ofNat n.toNat) [49]) = false := beq_eq_false_iff_ne.2 h1
    rw [hne, Bool.not_false, cond_true, if_neg h1]
    refine hs.trans ?_
    rw [B_toList, he, impl_FormatTerm_n N hN n _ _ hn s1 s2, B_toList]
    by_cases h0 : l = []
    · subst h0; rfl
    · rw [beq_eq_false_iff_ne.2 h0, cond_false, if_neg h0]
      by_cases h2 : ftb n (scn l false 0 0).1 (scn l false 0 0).2 = l
      · rw [if_pos h2, beq_iff_eq.2 h2]; rfl
      · rw [if_neg h2, beq_eq_false_iff_ne.2 h2]; rfl
theorem spec_ParseTerm_n (N : Nat) (hN : 1048576 < N) (n : Nat) (hn : n ≤ 5) (l : List UInt8) (hl : l.length ≤ 1000) (K : Int → Int → Bool → Option β) : zj155 N (n : Int) (B l) K = ptK (ptm n l) K := by
  unfold zj155 ptm
  have he : ByteArray.empty.toList = ([] : List UInt8) := B_toList []
  by_cases h1 : l = [49]
  · subst h1
    have e := fun K => spec_FormatTerm_n (β := β) N hN n 0 0 hn (by decide) (by decide) K
    simp only [Int.natCast_zero, ftb_one n hn] at e
    rw [if_pos rfl]
    obtain ⟨G, rfl⟩ : ∃ G, N = G + 1 := ⟨N - 1, by omega⟩
    simp only [zj154, zj153]
    rw [e, he, B_toList, B_strOf, B_toList]
    rfl
  · obtain ⟨s1, s2⟩ := scn_lt l false 0 0 (by decide) (by decide)
    have hs := spec_scan (β := β) N n hn l hl h1 (fun e0 e1 e2 => K e1 e2 e0) (fun e0 e1 e2 e3 e4 e5 => cond (e1.toList == ByteArray.empty.toList) (K 0 0 false) (zj143 N e0 e4 e5 fun r9 => cond (!(r9.toList == e1.toList)) (K 0 0 false) (K e4 e5 true))) l [] N false 0 0 rfl (by omega) (by decide) (by decide)
    rw [if_neg h1]
    refine hs.trans ?_
    rw [B_toList, he, spec_FormatTerm_n N hN n _ _ hn s1 s2, B_toList]
    by_cases h0 : l = []
    · subst h0; rfl
    · rw [beq_eq_false_iff_ne.2 h0, cond_false, if_neg h0]
      by_cases h2 : ftb n (scn l false 0 0).1 (scn l false 0 0).2 = l
      · have hg : good n l = true := by
          unfold ftb at h2
          cases hok : okT n (scn l false 0 0).1 (scn l false 0 0).2 with
          | false => rw [hok, cond_false] at h2; exact absurd h2.symm h0
          | true =>
            rw [hok, cond_true] at h2
            cases hf : (ft (scn l false 0 0).1 (scn l false 0 0).2 n == []) with
            | true => rw [hf, cond_true] at h2; exact absurd h2.symm h1
            | false =>
              rw [hf, cond_false] at h2
              rw [← h2]
              exact ft_good n _ _ hn n (Nat.le_refl _)
        rw [if_pos h2, beq_iff_eq.2 h2, hg]; rfl
      · rw [if_neg h2, beq_eq_false_iff_ne.2 h2]
        cases good n l <;> rfl
end Go.Proofs.YtddflpokemgnmaaGreatDoor
namespace Go.Proofs.YtddflpokemgnmaaGreatDoor
open Go.Rv
set_option linter.unusedVariables false
variable {β : Type}
section
variable (N : Nat) (hN : 1048576 < N) (a : Int) (ha : (decide (0 ≤ a) && decide (a ≤ 5)) = false)
include ha
theorem spec_IsTerm_bad (m v : Int) (K : Bool → Option β) : zj76 N a m v K = K false := by
  unfold zj76
  rw [spec_l1In_eq, ha]
  rfl
include hN
theorem spec_FormatTerm_bad (m v : Int) (K : ByteArray → Option β) : zj143 N a m v K = K (B []) := by
  have e := fun m v (K : Bool → Option β) => spec_IsTerm_bad N a ha m v K
  obtain ⟨G, rfl⟩ : ∃ G, N = G + 1 := ⟨N - 1, by omega⟩
  unfold zj143
  simp only [zj142, zj141, e, cond_false]
  rw [beq_self_eq_true, cond_true]
  rfl
theorem spec_ParseTerm_bad (l : List UInt8) (hl : l.length ≤ 1000) (K : Int → Int → Bool → Option β) : zj155 N a (B l) K = K 0 0 false := by
  have he : ByteArray.empty.toList = ([] : List UInt8) := B_toList []
  have hF := fun m v (K : ByteArray → Option β) => spec_FormatTerm_bad N hN a ha m v K
  have hk1 : ∀ m v : Int, (cond ((B l).toList == ByteArray.empty.toList) (K 0 0 false) (zj143 N a m v fun r9 => cond (!(r9.toList == (B l).toList)) (K 0 0 false) (K m v true))) = K 0 0 false := fun m v => by
    rw [hF, B_toList, he, B_toList]
    cases l with
    | nil => rfl
    | cons b l => rfl
  unfold zj155
  by_cases h1 : l = [49]
  · obtain ⟨G, hG⟩ : ∃ G, N = G + 1 := ⟨N - 1, by omega⟩
    have hq : ((B l).toList == (strOf [49]).toList) = true := by rw [B_toList, B_strOf, B_toList, h1]; rfl
    rw [show zj154 (β := β) N N = zj154 N (G + 1) by rw [← hG]]
    simp only [zj154, zj153, hq, Bool.not_true, cond_false]
    cases decide ((0 : Int) < ((B l).size : Int)) <;> exact hk1 0 0
  · have hq : ((B l).toList == (strOf [49]).toList) = false := by
      rw [B_toList, B_strOf, B_toList]
      exact beq_eq_false_iff_ne.2 h1
    have main : ∀ (rest pre : List UInt8) (F : Nat) (f : Bool), pre ++ rest = l → rest.length < F →
        zj154 N F a (B l) f (pre.length : Int) 0 0 0 0 (fun e0 e1 e2 => K e1 e2 e0) (fun e0 e1 e2 e3 e4 e5 => cond (e1.toList == ByteArray.empty.toList) (K 0 0 false) (zj143 N e0 e4 e5 fun r9 => cond (!(r9.toList == e1.toList)) (K 0 0 false) (K e4 e5 true))) = K 0 0 false := by
      intro rest
      induction rest with
      | nil =>
        intro pre F f hp hF
        obtain ⟨G, rfl⟩ : ∃ G, F = G + 1 := ⟨F - 1, by simp at hF; omega⟩
        have hlen : l.length = pre.length := by rw [← hp]; simp
        simp only [zj154, zj153, B_size]
        rw [decide_eq_false (by omega), cond_false]
        exact hk1 0 0
      | cons b rest ih =>
        intro pre F f hp hF
        simp only [List.length_cons] at hF
        obtain ⟨G, rfl⟩ : ∃ G, F = G + 1 := ⟨F - 1, by omega⟩
        have hlen : l.length = pre.length + (rest.length + 1) := by rw [← hp]; simp
        have next := fun f => ih (pre ++ [b]) G f (by rw [← hp]; simp) (by omega)
        simp only [List.length_append, List.length_cons, List.length_nil, Nat.zero_add] at next
        simp only [zj154, zj153, B_size, hq, spec_l1In_eq, ha]
        rw [decide_eq_true (by omega : (pre.length : Int) < (l.length : Int)), cond_true, Bool.not_false, cond_true, gd_true (decide_eq_true (by omega)), gd_true rfl, w64_succ _ (by omega)]
        cases bt (B l) (pre.length : Int) == 33 with
        | true => rw [cond_true]; exact next true
        | false => rw [cond_false, gd_true (decide_eq_true (by omega)), gd_true rfl, cond_true]
    exact main l [] N false rfl (by omega)
end

def tl (l : List (Nat × Nat)) : List (Int × Int) := l.map fun p => ((p.1 : Int), (p.2 : Int))
theorem tl_len (l : List (Nat × Nat)) : (tl l).length = l.length := by simp [tl]
theorem tl_snoc (l : List (Nat × Nat)) (p : Nat × Nat) : tl (l ++ [p]) = tl l ++ [((p.1 : Int), (p.2 : Int))] := by simp [tl]
def run (q : List UInt8 → Option (Nat × Nat)) : List (List UInt8) → List (Nat × Nat) → Option (List (Nat × Nat))
  | [], out => some out
  | p :: ps, out => match q p with
    | some t => run q ps (out ++ [t])
    | none => none
def runK (o : Option (List (Nat × Nat))) (k1 : List (Nat × Nat) → Option β) (k0 : Option β) : Option β := match o with
  | some o => k1 o
  | none => k0
theorem run_ok {q : List UInt8 → Option (Nat × Nat)} {p : Nat × Nat → Prop} (hq : ∀ l t, q l = some t → p t) : ∀ (ps : List (List UInt8)) (out o : List (Nat × Nat)), run q ps out = some o → (∀ t ∈ out, p t) → (∀ t ∈ o, p t) ∧ o.length = out.length + ps.length
  | [], out, o, h, ho => by cases h; exact ⟨ho, rfl⟩
  | l :: ps, out, o, h, ho => by
    unfold run at h
    cases hl : q l with
    | none => rw [hl] at h; cases h
    | some t =>
      rw [hl] at h
      obtain ⟨h1, h2⟩ := run_ok hq ps (out ++ [t]) o h fun x hx => by
        rcases List.mem_append.1 hx with hx | hx
        · exact ho x hx
        · simp only [List.mem_singleton] at hx; rw [hx]; exact hq _ _ hl
      refine ⟨h1, ?_⟩
      rw [h2]
      simp
      omega
theorem spl_len (c : UInt8) : ∀ (l acc : List UInt8), (spl c acc l).length ≤ l.length + 1 ∧ ∀ p ∈ spl c acc l, p.length ≤ acc.length + l.length
  | [], acc => by simp [spl]
  | b :: l, acc => by
    unfold spl
    split
    · obtain ⟨h1, h2⟩ := spl_len c l []
      refine ⟨by simp only [List.length_cons]; omega, fun p hp => ?_⟩
      rcases List.mem_cons.1 hp with rfl | hp
      · simp
      · have := h2 p hp
        simp only [List.length_nil, List.length_cons] at this ⊢
        omega
    · obtain ⟨h1, h2⟩ := spl_len c l (acc ++ [b])
      refine ⟨by simp only [List.length_cons]; omega, fun p hp => ?_⟩
      have := h2 p hp
      simp only [List.length_append, List.length_nil, List.length_cons] at this ⊢
      omega

theorem spec_sum (N : Nat) (a : Int) (q : List UInt8 → Option (Nat × Nat)) (hq : ∀ p, p.length ≤ 1000 → ∀ K : Int → Int → Bool → Option β, zj155 N a (B p) K = ptK (q p) K) (l : List UInt8) (hl : l.length ≤ 200)
    (k0 : Bool → List (Int × Int) → Option β) (k1 : Int → ByteArray → List (Int × Int) → Option β) : ∀ (rest pre acc : List UInt8) (F : Nat) (out : List (Nat × Nat)), pre ++ rest = l → rest.length + 1 < F → acc.length ≤ pre.length → out.length ≤ pre.length →
    zj157 N F a (B l) (B acc) (pre.length : Int) (tl out) k0 k1 = runK (run q (spl 124 acc rest) out) (fun o => k1 a (B l) (tl o)) (k0 false []) := by
  intro rest
  induction rest with
  | nil =>
    intro pre acc F out hp hF hacc hout
    obtain ⟨G, rfl⟩ : ∃ G, F = G + 1 + 1 := ⟨F - 2, by simp at hF; omega⟩
    have hlen : l.length = pre.length := by rw [← hp]; simp
    rw [show zj157 (β := β) N (G + 1 + 1) = fun v0 v1 v2 v3 v4 k0 k1 => zj156 N v0 v1 v2 v3 v4 (fun v0 v1 v2 v3 v4 => zj157 N (G + 1) v0 v1 v2 v3 v4 k0 k1) k0 k1 from rfl]
    simp only [zj156, B_size]
    rw [decide_eq_true (by omega : (pre.length : Int) ≤ (l.length : Int)), cond_true, decide_eq_true (by omega : (l.length : Int) ≤ 200), cond_true, decide_eq_false (by omega : ¬ (pre.length : Int) < (l.length : Int)), cond_false, hq acc (by omega)]
    simp only [spl, run]
    cases hqa : q acc with
    | none => rfl
    | some t =>
      simp only [ptK, Bool.not_true, cond_false, List.nil_append, List.length_cons, List.length_nil]
      rw [gd_true (decide_eq_true (by rw [tl_len]; omega)), ← tl_snoc, w64_succ _ (by omega)]
      simp only [zj157, zj156, B_size]
      rw [decide_eq_false (by omega), cond_false]
      rfl
  | cons b rest ih =>
    intro pre acc F out hp hF hacc hout
    simp only [List.length_cons] at hF
    obtain ⟨G, rfl⟩ : ∃ G, F = G + 1 := ⟨F - 1, by omega⟩
    have hlen : l.length = pre.length + (rest.length + 1) := by rw [← hp]; simp
    have hbt : bt (B l) (pre.length : Int) = (b.toNat : Int) := by rw [← hp]; exact bt_mid pre rest b
    have next := fun acc out h1 h2 => ih (pre ++ [b]) acc G out (by rw [← hp]; simp) (by omega) h1 h2
    simp only [List.length_append, List.length_cons, List.length_nil, Nat.zero_add] at next
    have hex : (l.take (pre.length + 1)).drop pre.length = [b] := by
      rw [← hp, List.drop_take]
      simp
    simp only [zj157, zj156, B_size, hbt]
    rw [decide_eq_true (by omega : (pre.length : Int) ≤ (l.length : Int)), cond_true, decide_eq_true (by omega : (l.length : Int) ≤ 200), cond_true, decide_eq_true (by omega : (pre.length : Int) < (l.length : Int)), cond_true, gd_true (decide_eq_true (by omega)), gd_true rfl, w64_succ _ (by omega), Int.toNat_natCast, Int.toNat_natCast, B_ext, hex]
    by_cases h124 : b = 124
    · subst h124
      rw [show ((((124 : UInt8).toNat : Nat) : Int) != 124) = false from rfl, cond_false, hq acc (by omega)]
      simp only [spl, if_true, run]
      cases hqa : q acc with
      | none => rfl
      | some t =>
        simp only [ptK, Bool.not_true, cond_false, List.nil_append, List.length_cons, List.length_nil]
        rw [gd_true (decide_eq_true (by rw [tl_len]; omega)), ← tl_snoc]
        exact next [] (out ++ [t]) (by simp) (by simp; omega)
    · have hne : ((b.toNat : Int) != 124) = true := by
        rw [bne_iff_ne]
        intro e
        apply h124
        apply UInt8.toNat_inj.1
        show b.toNat = 124
        omega
      rw [hne, cond_true, gd_true (decide_eq_true (by omega)), gd_true (decide_eq_true (by omega)), gd_true (decide_eq_true (by omega)), gd_true (decide_eq_true (by omega)), B_app]
      simp only [B_size]
      rw [gd_true (decide_eq_true (by simp; omega)), spl, if_neg h124]
      exact next (acc ++ [b]) out (by simp; omega) (by omega)

theorem impl_sum (N : Nat) (a : Int) (q : List UInt8 → Option (Nat × Nat)) (hq : ∀ p, p.length ≤ 1000 → ∀ K : Int → Int → Bool → Option β, zj136 N a (B p) K = ptK (q p) K) (ps : List (List UInt8)) (hps : ps.length ≤ 1000) (hp1 : ∀ p ∈ ps, p.length ≤ 1000)
    (k0 : Bool → List (Int × Int) → Option β) (k1 : Int → List (Int × Int) → Option β) : ∀ (rest pre : List (List UInt8)) (F : Nat) (out : List (Nat × Nat)), pre ++ rest = ps → rest.length < F → out.length ≤ pre.length →
    zj138 N F a (ps.length : Int) (pre.length : Int) (tl out) (ps.map B) k0 k1 = runK (run q rest out) (fun o => k1 a (tl o)) (k0 false []) := by
  intro rest
  induction rest with
  | nil =>
    intro pre F out hp hF hout
    obtain ⟨G, rfl⟩ : ∃ G, F = G + 1 := ⟨F - 1, by simp at hF; omega⟩
    have hlen : ps.length = pre.length := by rw [← hp]; simp
    simp only [zj138, zj137]
    rw [decide_eq_false (by omega), cond_false]
    rfl
  | cons p rest ih =>
    intro pre F out hp hF hout
    simp only [List.length_cons] at hF
    obtain ⟨G, rfl⟩ : ∃ G, F = G + 1 := ⟨F - 1, by omega⟩
    have hlen : ps.length = pre.length + (rest.length + 1) := by rw [← hp]; simp
    have hrd : rd ByteArray.empty (ps.map B) (pre.length : Int) = B p := by
      rw [← hp]
      simp [rd, List.getD_eq_getElem?_getD]
    have next := fun out h => ih (pre ++ [p]) G out (by rw [← hp]; simp) (by omega) h
    simp only [List.length_append, List.length_cons, List.length_nil, Nat.zero_add] at next
    simp only [zj138, zj137, hrd, List.length_map]
    rw [decide_eq_true (by omega : (pre.length : Int) < (ps.length : Int)), cond_true, gd_true (decide_eq_true (by omega)), gd_true rfl, hq p (hp1 p (by rw [← hp]; simp)), w64_succ _ (by omega)]
    simp only [run]
    cases hqa : q p with
    | none => rfl
    | some t =>
      simp only [ptK, Bool.not_true, cond_false, List.nil_append, List.length_cons, List.length_nil]
      rw [gd_true (decide_eq_true (by rw [tl_len]; omega)), ← tl_snoc]
      exact next (out ++ [t]) (by simp; omega)

def Good (n : Nat) (t : Nat × Nat) : Prop := okT n t.1 t.2 = true ∧ t.1 < 32 ∧ t.2 < 32
theorem rd_tl (o : List (Nat × Nat)) (i : Nat) (h : i < o.length) : rd (0, 0) (tl o) (i : Int) = ((o[i].1 : Int), (o[i].2 : Int)) := by
  simp [rd, tl, List.getD_eq_getElem?_getD, List.getElem?_eq_getElem h]
theorem spec_valid (N : Nat) (hN : 1048576 < N) (n : Nat) (hn : n ≤ 5) (o : List (Nat × Nat)) (ho : o.length ≤ 1000) (hg : ∀ t ∈ o, Good n t) (K : Bool → Option β) : zj79 N (n : Int) (tl o) K = K (decide ((o.length : Int) ≤ 40)) := by
  unfold zj79
  refine loop_st (fun F i => zj78 N F (n : Int) (tl o) (i : Int) (fun e => K e) fun e0 e1 => zj4 N e0 0 5 fun r6 => cond r6 (K (decide ((e1.length : Int) ≤ 40))) (K false)) o.length _ (fun F i hi => ?_) (fun F => ?_) N 0 (by omega) (by omega)
  · obtain ⟨h1, h2, h3⟩ := hg o[i] (List.getElem_mem hi)
    simp only [zj78, zj77, tl_len, rd_tl o i hi]
    rw [decide_eq_true (by omega : (i : Int) < (o.length : Int)), cond_true, gd_true (decide_eq_true (by omega)), gd_true rfl, spec_IsTerm_n N n _ _ hn h2 h3, h1, Bool.not_true, cond_false, w64_succ i (by omega)]
  · simp only [zj78, zj77, tl_len]
    rw [decide_eq_false (by omega), cond_false, spec_l1In_eq, decide_eq_true (by omega : (0 : Int) ≤ (n : Int)), decide_eq_true (by omega : (n : Int) ≤ 5)]
    rfl
theorem impl_valid (N : Nat) (hN : 1048576 < N) (n : Nat) (hn : n ≤ 5) (o : List (Nat × Nat)) (ho : o.length ≤ 1000) (hg : ∀ t ∈ o, Good n t) (K : Bool → Option β) : zj64 N (n : Int) (tl o) K = K (decide ((o.length : Int) ≤ 40)) := by
  unfold zj64 zj63 zj53 zj62 zj61
  rw [decide_eq_true (by omega : (n : Int) ≥ 0), cond_true, decide_eq_true (by omega : (n : Int) ≤ 5)]
  dsimp only
  rw [cond_true, tl_len]
  have main := fun (K : Int → Option β) => loop_st (fun F i => zj60 N (fun x0 x1 k => zj56 N x0 x1 (n : Int) k) F (tl o) (o.length : Int) (i : Int) (fun e => K e) (K (-1))) o.length (K (-1)) (fun F i hi => by
    obtain ⟨h1, h2, h3⟩ := hg o[i] (List.getElem_mem hi)
    simp only [zj60, zj59, tl_len, rd_tl o i hi, zj56]
    rw [decide_eq_true (by omega : (i : Int) < (o.length : Int)), cond_true, gd_true (decide_eq_true (by omega)), gd_true rfl, impl_IsTerm_n N n _ _ hn h2 h3, h1, Bool.not_true, cond_false, w64_succ i (by omega)]) (fun F => by
    simp only [zj60, zj59]
    rw [decide_eq_false (by omega), cond_false]) N 0 (by omega) (by omega)
  refine (main _).trans ?_
  rfl

theorem Sum_both (N : Nat) (hN : 1048576 < N) (a : Int) (l : List UInt8) :
    ∃ (o : List (Nat × Nat)) (b : Bool), o.length ≤ 40 ∧ (∀ n : Nat, a = n → n ≤ 5 → ∀ t ∈ o, Good n t) ∧ (∀ K : List (Int × Int) → Bool → Option β, zj158 N a (B l) K = K (tl o) b) ∧ (∀ K : List (Int × Int) → Bool → Option β, zj139 N a (B l) K = K (tl o) b) := by
  have h48 : ((B l).toList == (strOf [48]).toList) = (l == [48]) := by rw [B_toList, B_strOf, B_toList]; rfl
  have hbits : ∀ K : Bool → Option β, zj53 N a K = K (decide (0 ≤ a) && decide (a ≤ 5)) := fun K => by
    unfold zj53
    by_cases h : 0 ≤ a
    · rw [decide_eq_true (show a ≥ 0 from h), cond_true, Bool.true_and]
    · rw [decide_eq_false (show ¬ a ≥ 0 from h)]; rfl
  cases hl0 : (l == [48]) with
  | true =>
    refine ⟨[], (decide (0 ≤ a) && decide (a ≤ 5)), by simp, by simp, fun K => ?_, fun K => ?_⟩
    · unfold zj158
      rw [h48, hl0, cond_true, spec_l1In_eq]
      rfl
    · have hl := eq_of_beq hl0
      unfold zj139
      rw [hbits, h48, hl0, B_size, hl]
      cases (decide (0 ≤ a) && decide (a ≤ 5)) <;> rfl
  | false =>
    by_cases hlen : l.length ≤ 200
    · have hs : ∀ K : List (Int × Int) → Bool → Option β, zj158 N a (B l) K = zj157 N N a (B l) (B []) (([] : List UInt8).length : Int) (tl []) (fun e0 e1 => K e1 e0) (fun e0 e1 e2 => cond (decide ((e1.size : Int) > 200)) (K [] false) (zj79 N e0 e2 fun r13 => cond (!r13) (K [] false) (K e2 true))) := fun K => by
        unfold zj158
        rw [h48, hl0]
        rfl
      cases hn : (decide (0 ≤ a) && decide (a ≤ 5)) with
      | false =>
        refine ⟨[], false, by simp, by simp, fun K => ?_, fun K => ?_⟩
        · rw [hs, spec_sum N a (fun _ => none) (fun p hp K => spec_ParseTerm_bad N hN a hn p hp K) l hlen _ _ l [] [] N [] rfl (by omega) (by simp) (by simp)]
          have : run (fun _ => none) (spl 124 [] l) [] = none := by
            have hne : spl 124 [] l ≠ [] := by
              cases l with
              | nil => simp [spl]
              | cons b l => unfold spl; split; · simp
                            · intro h
                              have key : ∀ (l acc : List UInt8), spl 124 acc l ≠ [] := by
                                intro l
                                induction l with
                                | nil => intro acc; simp [spl]
                                | cons b l ih => intro acc; unfold spl; split; · simp
                                                 · exact ih _
                              exact key _ _ h
            cases hsp : spl 124 [] l with
            | nil => exact absurd hsp hne
            | cons p ps => rfl
          rw [this]
          rfl
        · unfold zj139
          rw [hbits, hn]
          rfl
      | true =>
        simp only [Bool.and_eq_true, decide_eq_true_eq] at hn
        obtain ⟨n, rfl⟩ := Int.eq_ofNat_of_zero_le hn.1
        have hn5 : n ≤ 5 := by omega
        obtain ⟨h1, h2⟩ := spl_len 124 l []
        simp only [List.length_nil, Nat.zero_add] at h2
        have e1 : ∀ K : List (Int × Int) → Bool → Option β, zj158 N (n : Int) (B l) K = runK (run (ptm n) (spl 124 [] l) []) (fun o => zj79 N (n : Int) (tl o) fun r13 => cond (!r13) (K [] false) (K (tl o) true)) (K [] false) := fun K => by
          rw [hs, spec_sum N n (ptm n) (fun p hp K => spec_ParseTerm_n N hN n hn5 p hp K) l hlen _ _ l [] [] N [] rfl (by omega) (by simp) (by simp)]
          congr 1
          funext o
          rw [B_size, decide_eq_false (by omega), cond_false]
        have e2 : ∀ K : List (Int × Int) → Bool → Option β, zj139 N (n : Int) (B l) K = runK (run (ptm n) (spl 124 [] l) []) (fun o => zj64 N (n : Int) (tl o) fun r11 => cond (!r11) (K [] false) (K (tl o) true)) (K [] false) := fun K => by
          unfold zj139 strings_Split
          have hsep : strOf [124] = ⟨#[124]⟩ := rfl
          rw [hbits, decide_eq_true (by omega : (0 : Int) ≤ (n : Int)), decide_eq_true (by omega : (n : Int) ≤ 5), Bool.and_self, Bool.not_true, cond_false, B_size, decide_eq_false (by omega), cond_false, h48, hl0, cond_false, hsep, gd_true (decide_eq_true (show (⟨#[124]⟩ : ByteArray).size = 1 from rfl)), gd_true (decide_eq_true (by omega)), splitB_spl, B_list]
          dsimp only
          rw [List.length_map]
          exact impl_sum N n (ptm n) (fun p hp K => impl_ParseTerm_n N hN n hn5 p hp K) (spl 124 [] l) (by omega) (fun p hp => by have := h2 p hp; omega) (fun e0 e1 => K e1 e0) (fun e0 e1 => zj64 N e0 e1 fun r11 => cond (!r11) (K [] false) (K e1 true)) (spl 124 [] l) [] N [] rfl (by omega) (by simp)
        cases hr : run (ptm n) (spl 124 [] l) [] with
        | none => exact ⟨[], false, by simp, by simp, fun K => by rw [e1, hr]; rfl, fun K => by rw [e2, hr]; rfl⟩
        | some o =>
          obtain ⟨g1, g2⟩ := run_ok (p := Good n) (fun l t h => pt_ok hn5 h) _ _ _ hr (by simp)
          simp only [List.length_nil, Nat.zero_add] at g2
          by_cases h40 : o.length ≤ 40
          · refine ⟨o, true, h40, fun m hm _ t ht => (show m = n by omega) ▸ g1 t ht, fun K => ?_, fun K => ?_⟩
            · rw [e1, hr]
              simp only [runK]
              rw [spec_valid N hN n hn5 o (by omega) g1, decide_eq_true (by omega)]
              rfl
            · rw [e2, hr]
              simp only [runK]
              rw [impl_valid N hN n hn5 o (by omega) g1, decide_eq_true (by omega)]
              rfl
          · refine ⟨[], false, by simp, by simp, fun K => ?_, fun K => ?_⟩
            · rw [e1, hr]
              simp only [runK]
              rw [spec_valid N hN n hn5 o (by omega) g1, decide_eq_false (by omega)]
              rfl
            · rw [e2, hr]
              simp only [runK]
              rw [impl_valid N hN n hn5 o (by omega) g1, decide_eq_false (by omega)]
              rfl
    · refine ⟨[], false, by simp, by simp, fun K => ?_, fun K => ?_⟩
      · unfold zj158
        rw [h48, hl0, cond_false]
        obtain ⟨G, rfl⟩ : ∃ G, N = G + 1 := ⟨N - 1, by omega⟩
        simp only [zj157, zj156, B_size]
        rw [decide_eq_true (by omega : (0 : Int) ≤ (l.length : Int)), cond_true, decide_eq_false (by omega : ¬ (l.length : Int) ≤ 200), cond_false, decide_eq_true (by omega), cond_true]
        rfl
      · unfold zj139
        rw [hbits, B_size, decide_eq_true (by omega : (l.length : Int) > 200)]
        cases (decide (0 ≤ a) && decide (a ≤ 5)) <;> rfl
end Go.Proofs.YtddflpokemgnmaaGreatDoor
namespace Go.Proofs.YtddflpokemgnmaaGreatDoor
open Go.Rv
set_option linter.unusedVariables false
variable {β : Type}
theorem tabw_step (g : Nat → Bool) (i : Nat) (hi : i < 32) : bits .or .i64 (tabw g i : Int) (shlI .i64 1 (i : Int)) = ((tabw g i ||| 2 ^ i : Nat) : Int) := by
  have hw : tabw g i < 2 ^ 63 := Nat.lt_of_lt_of_le (tabw_lt g i) (Nat.pow_le_pow_right (by decide) (by omega))
  rw [shl_one i (by omega), bOr _ _ hw (Nat.pow_lt_pow_right (by decide) (by omega))]
theorem tabw_yes {g : Nat → Bool} {i : Nat} (h : g i = true) : tabw g (i + 1) = tabw g i ||| 2 ^ i := by simp [tabw, h]
theorem tabw_no {g : Nat → Bool} {i : Nat} (h : g i = false) : tabw g (i + 1) = tabw g i := by simp [tabw, h]

end Go.Proofs.YtddflpokemgnmaaGreatDoor
namespace Go.Proofs.YtddflpokemgnmaaGreatDoor
open Go.Rv
set_option linter.unusedVariables false
variable {β : Type}
end Go.Proofs.YtddflpokemgnmaaGreatDoor
namespace Go.Proofs.YtddflpokemgnmaaGreatDoor
open Go.Rv
set_option linter.unusedVariables false
variable {β : Type}
theorem join_snoc (sep y : List UInt8) : ∀ l : List (List UInt8), Lib.join (l ++ [y]) sep = if l = [] then y else Lib.join l sep ++ sep ++ y
  | [] => by rw [if_pos rfl, List.nil_append, Lib.join_cons]; simp [Lib.joinTail]
  | x :: l => by
    rw [if_neg (by simp), List.cons_append, Lib.join_cons, Lib.join_cons]
    simp [Lib.joinTail]
theorem joinB_B (l : List (List UInt8)) (s : List UInt8) : joinB (l.map B) (B s) = B (Lib.join l s) := by
  unfold joinB B
  rw [List.map_map]
  have : ((fun x : ByteArray => x.data.toList) ∘ fun l : List UInt8 => (⟨l.toArray⟩ : ByteArray)) = id := by
    funext l
    simp
  rw [this]
  simp
theorem join_len_le (c : UInt8) (b : Nat) : ∀ l : List (List UInt8), (∀ x ∈ l, x.length ≤ b) → (Lib.join l [c]).length ≤ (b + 1) * l.length
  | [], _ => by simp [Lib.join]
  | x :: l, h => by
    rw [Lib.join_cons, List.length_append, Lib.joinTail_length]
    have h1 := h x (by simp)
    have h2 : ∀ l : List (List UInt8), (∀ x ∈ l, x.length ≤ b) → Lib.lens l ≤ b * l.length := by
      intro l
      induction l with
      | nil => intro _; simp [Lib.lens]
      | cons y l ih =>
        intro h
        have e1 := h y (by simp)
        have e2 := ih fun z hz => h z (by simp [hz])
        simp only [Lib.lens, List.map_cons, List.sum_cons, List.length_cons] at e2 ⊢
        rw [Nat.mul_add, Nat.mul_one]
        omega
    have h3 := h2 l fun z hz => h z (by simp [hz])
    simp only [List.length_cons, List.length_nil]
    have e3 : (b + 1) * (l.length + 1) = b * l.length + l.length + b + 1 := by rw [Nat.add_mul, Nat.one_mul, Nat.mul_add, Nat.mul_one]; omega
    rw [e3]
    omega

def wordsT (n : Nat) (o : List (Nat × Nat)) : List (List UInt8) := o.map fun t => ftb n t.1 t.2
theorem wordsT_len (n : Nat) (o : List (Nat × Nat)) : (wordsT n o).length = o.length := by simp [wordsT]
theorem impl_joinTerms_n (N : Nat) (hN : 1048576 < N) (n : Nat) (hn : n ≤ 5) (o : List (Nat × Nat)) (ho : o.length ≤ 1000) (hg : ∀ t ∈ o, t.1 < 32 ∧ t.2 < 32 ∧ (ftb n t.1 t.2).length ≤ 10) (c : UInt8) (K : ByteArray → Option β) : zj130 N (n : Int) (tl o) (B [c]) K = K (B (Lib.join (wordsT n o) [c])) := by
  unfold zj130
  rw [gd_true (decide_eq_true (by omega)), gd_true (decide_eq_true (by omega)), tl_len, gd_true (decide_eq_true (by omega)), Int.toNat_natCast]
  have key := loop_st (fun F i => zj129 N F (n : Int) (B [c]) (tl o) (o.length : Int) (i : Int) (((wordsT n o).map B).take i ++ List.replicate (o.length - i) ByteArray.empty) fun e0 e1 => strings_Join N e1 e0 fun r6 => K r6) o.length (K (B (Lib.join (wordsT n o) [c]))) (fun F i hi => ?_) (fun F => ?_) N 0 (by omega) (by omega)
  · simpa using key
  · simp only [zj129, zj128]
    obtain ⟨h1, h2, h3⟩ := hg o[i] (List.getElem_mem hi)
    have htk : (((wordsT n o).map B).take i).length = i := by rw [List.length_take, List.length_map, wordsT_len]; omega
    rw [decide_eq_true (by omega : (i : Int) < (o.length : Int)), cond_true, gd_true (decide_eq_true (by omega)), tl_len, gd_true (decide_eq_true (by omega)), rd_tl o i hi, impl_FormatTerm_n N hN n _ _ hn h1 h2, gd_true (decide_eq_true (by omega)), gd_true (decide_eq_true (by rw [List.length_append, htk, List.length_replicate]; omega)), w64_succ i (by omega), show o.length - i = (o.length - (i + 1)) + 1 by omega, List.replicate_succ]
    have e := wr_mid (((wordsT n o).map B).take i) ByteArray.empty (B (ftb n o[i].1 o[i].2)) (List.replicate (o.length - (i + 1)) ByteArray.empty)
    rw [htk] at e
    rw [e]
    have e2 : ((wordsT n o).map B).take (i + 1) = ((wordsT n o).map B).take i ++ [B (ftb n o[i].1 o[i].2)] := by
      rw [List.take_add_one, List.getElem?_map]
      simp [wordsT, List.getElem?_eq_getElem hi]
    rw [e2]
    simp
  · simp only [zj129, zj128]
    rw [decide_eq_false (by omega : ¬ (o.length : Int) < (o.length : Int)), cond_false, Nat.sub_self, List.replicate_zero, List.append_nil, List.take_of_length_le (by rw [List.length_map, wordsT_len]; exact Nat.le_refl _)]
    unfold strings_Join
    have hb : ∀ x ∈ wordsT n o, x.length ≤ 10 := fun x hx => by
      obtain ⟨t, ht, rfl⟩ := List.mem_map.1 hx
      exact (hg t ht).2.2
    have hj := join_len_le c 10 _ hb
    rw [wordsT_len] at hj
    rw [joinB_B, gd_true (decide_eq_true (by rw [List.length_map, wordsT_len]; omega)), gd_true (decide_eq_true (by rw [B_size]; omega))]
end Go.Proofs.YtddflpokemgnmaaGreatDoor
namespace Go.Proofs.YtddflpokemgnmaaGreatDoor
open Go.Rv
set_option linter.unusedVariables false
variable {β : Type}
theorem join_mem (c b : UInt8) : ∀ l : List (List UInt8), b ∈ Lib.join l [c] → b = c ∨ ∃ x ∈ l, b ∈ x
  | [], h => by simp [Lib.join] at h
  | x :: l, h => by
    rw [Lib.join_cons, List.mem_append] at h
    rcases h with h | h
    · exact .inr ⟨x, by simp, h⟩
    · simp only [Lib.joinTail, List.mem_flatten, List.mem_map] at h
      obtain ⟨y, ⟨z, hz, rfl⟩, hb⟩ := h
      rcases List.mem_append.1 hb with hb | hb
      · exact .inl (by simpa using hb)
      · exact .inr ⟨z, by simp [hz], hb⟩
def hold (o : List (Nat × Nat)) (x : Nat) : Bool := o.any fun t => x &&& t.1 == t.2
theorem and_smT : ∀ x : Nat, x < 32 → ∀ m : Nat, m < 32 → bits .and .i64 (x : Int) (m : Int) = ((x &&& m : Nat) : Int) := by decide +kernel
theorem spec_l6Word_n (N : Nat) (hN : 1048576 < N) (n m v : Nat) (hn : n ≤ 5) (hm : m < 32) (K : Int → Option β) : zj8 N (n : Int) (m : Int) (v : Int) K = K (tabw (fun x => x &&& m == v) (2 ^ n) : Int) := by
  have hs := size_le hn
  have hz : (0 : Int) ≤ ((2 ^ n : Nat) : Int) := Int.natCast_nonneg _
  unfold zj8
  refine loop_st (fun F x => zj7 N F (n : Int) (tabw (fun x => x &&& m == v) x : Int) (x : Int) (m : Int) (v : Int) fun e => K e) (2 ^ n) _ (fun F x hx => ?_) (fun F => ?_) N 0 (by omega) (by omega)
  · simp only [zj7, zj6]
    rw [gd_true (decide_eq_true (by omega)), shl_one n (by omega), decide_eq_true (by omega : (x : Int) < ((2 ^ n : Nat) : Int)), cond_true, and_smT x (by omega) m hm, natb, gd_true (decide_eq_true (by omega)), w64_succ x (by omega), tabw_step _ x (by omega)]
    cases h : x &&& m == v with
    | true => rw [cond_true, tabw_yes (g := fun x => x &&& m == v) h]
    | false => rw [cond_false, tabw_no (g := fun x => x &&& m == v) h]
  · simp only [zj7, zj6]
    rw [gd_true (decide_eq_true (by omega)), shl_one n (by omega), decide_eq_false (by omega : ¬ ((2 ^ n : Nat) : Int) < ((2 ^ n : Nat) : Int)), cond_false]

theorem any_loop (N : Nat) (hN : 1048576 < N) (o : List (Nat × Nat)) (ho : o.length ≤ 1000) (h : Int → Int → (Bool → Option β) → Option β) (p : Nat × Nat → Bool) (hh : ∀ t ∈ o, ∀ k, h (t.1 : Int) (t.2 : Int) k = k (p t)) (K : Bool → Option β) : zj62 N (tl o) h K = K (o.any p) := by
  unfold zj62 zj61
  rw [tl_len]
  have key : ∀ (d i F : Nat), o.length - i = d → i ≤ o.length → d < F → zj60 N h F (tl o) (o.length : Int) (i : Int) (fun e => K (decide (e ≥ 0))) (K (decide ((-1 : Int) ≥ 0))) = K ((o.drop i).any p) := by
    intro d
    induction d with
    | zero =>
      intro i F hd hi hF
      obtain ⟨G, rfl⟩ : ∃ G, F = G + 1 := ⟨F - 1, by omega⟩
      simp only [zj60, zj59]
      rw [decide_eq_false (by omega), cond_false, List.drop_of_length_le (by omega)]
      rfl
    | succ d ih =>
      intro i F hd hi hF
      obtain ⟨G, rfl⟩ : ∃ G, F = G + 1 := ⟨F - 1, by omega⟩
      have hlt : i < o.length := by omega
      simp only [zj60, zj59, tl_len, rd_tl o i hlt]
      rw [decide_eq_true (by omega : (i : Int) < (o.length : Int)), cond_true, gd_true (decide_eq_true (by omega)), gd_true rfl, hh _ (List.getElem_mem hlt), w64_succ i (by omega), ih (i + 1) G (by omega) (by omega) (by omega), List.drop_eq_getElem_cons hlt, List.any_cons, decide_eq_true (by omega : (i : Int) ≥ 0)]
      cases p o[i] <;> rfl
  exact (key o.length 0 N (by omega) (by omega) (by omega)).trans (by rw [List.drop_zero])

theorem impl_TableOfTerms_n (N : Nat) (hN : 1048576 < N) (n : Nat) (hn : n ≤ 5) (o : List (Nat × Nat)) (ho : o.length ≤ 1000) (hg : ∀ t ∈ o, Good n t) (K : Int → Int → Bool → Option β) : zj107 N (n : Int) (tl o) K = K (n : Int) (tabw (hold o) (2 ^ n) : Int) true := by
  have hbits : ∀ K : Bool → Option β, zj53 N (n : Int) K = K true := fun K => by
    unfold zj53
    rw [decide_eq_true (by omega : (n : Int) ≥ 0), cond_true, decide_eq_true (by omega : (n : Int) ≤ 5)]
  have hs := size_le hn
  unfold zj107 zj63
  rw [hbits, cond_true, any_loop N hN o ho _ (fun _ => false) (fun t ht k => by
    obtain ⟨g1, g2, g3⟩ := hg t ht
    unfold zj56
    rw [impl_IsTerm_n N n _ _ hn g2 g3, g1]
    rfl)]
  have h0 : (o.any fun _ => false) = false := by simp
  rw [h0, Bool.not_false]
  dsimp only
  rw [Bool.not_true, cond_false]
  unfold zj106
  rw [makeTable_eq N (by omega) n hn _ (hold o) (fun x k hx => by
    unfold zj102
    rw [any_loop N hN o ho _ (fun t => x &&& t.1 == t.2) (fun t ht k => by
      obtain ⟨g1, g2, g3⟩ := hg t ht
      unfold zj58 zj57
      rw [and_smT x (by omega) t.1 g2, natb])]
    rfl)]
end Go.Proofs.YtddflpokemgnmaaGreatDoor
namespace Go.Proofs.YtddflpokemgnmaaGreatDoor
open Go.Rv
set_option linter.unusedVariables false
variable {β : Type}
theorem l1Text_loop (N : Nat) (b : List Int) (hb : b.length ≤ 9223372036854775807) (v : Int) : ∀ (d F : Nat) (i h : Int) (acc : List Int), d < F → acc.length + d ≤ 1000 → 0 ≤ i →
    ∃ (acc' : List Int) (i' h' : Int), acc'.length ≤ acc.length + d ∧ 0 ≤ i' ∧ ∀ k0 : List Int → Int → Int → List Int → Option β, zj148 N F v (d : Int) b i h acc k0 = k0 b i' h' acc' := by
  intro d
  induction d with
  | zero =>
    intro F i h acc hF _ h0
    obtain ⟨G, rfl⟩ : ∃ G, F = G + 1 := ⟨F - 1, by omega⟩
    refine ⟨acc, i, h, by omega, h0, fun k0 => ?_⟩
    simp only [zj148, zj147]
    rfl
  | succ d ih =>
    intro F i h acc hF hd h0
    obtain ⟨G, rfl⟩ : ∃ G, F = G + 1 := ⟨F - 1, by omega⟩
    obtain ⟨r, i1, h1, r1, p1, e1⟩ := l1Byte_ends (β := β) N b i h h0 hb
    have hw : w64 (((d + 1 : Nat) : Int) - 1) = (d : Int) := by rw [w64_id] <;> omega
    have step : ∀ y : Int, ∃ (acc' : List Int) (i' h' : Int), acc'.length ≤ acc.length + (d + 1) ∧ 0 ≤ i' ∧ ∀ k0 : List Int → Int → Int → List Int → Option β, (gd (decide ((acc.length + (([] : List Int) ++ [y]).length) * 1 ≤ 140737488355328)) (zj148 N G v (d : Int) b i1 h1 (acc ++ (([] : List Int) ++ [y])) k0)) = k0 b i' h' acc' := fun y => by
      obtain ⟨acc', i', h', l1, p2, e2⟩ := ih G i1 h1 (acc ++ [y]) (by omega) (by simp; omega) p1
      refine ⟨acc', i', h', by simp at l1; omega, p2, fun k0 => ?_⟩
      rw [gd_true (decide_eq_true (by simp; omega))]
      exact e2 k0
    simp only [zj148, zj147]
    simp only [decide_eq_true (by omega : ((d + 1 : Nat) : Int) > 0), cond_true, e1, hw]
    cases v == 1 <;> cases v == 2 <;> simp only [cond_true, cond_false] <;> exact step _
theorem l1Text_ends (N : Nat) (hN : 1048576 < N) (b : List Int) (hb : b.length ≤ 9223372036854775807) (i h : Int) (h0 : 0 ≤ i) :
    ∃ (s : List UInt8) (i' h' : Int), s.length ≤ 3 ∧ 0 ≤ i' ∧ ∀ k0 : ByteArray → List Int → Int → Int → Option β, zj149 N 3 b i h k0 = k0 (B s) b i' h' := by
  unfold zj149
  obtain ⟨x, i1, h1, -, -, p1, e1⟩ := l1Below_ends (β := β) N 4 b i h (by decide) h0 hb
  obtain ⟨y, i2, h2, y2, -, p2, e2⟩ := l1Below_ends (β := β) N 4 b i1 h1 (by decide) p1 hb
  obtain ⟨acc, i3, h3, l3, p3, e3⟩ := l1Text_loop (β := β) N b hb (x : Int) y N i2 h2 [] (by have := y2 (by decide); omega) (by have := y2 (by decide); simp; omega) p2
  refine ⟨acc.map fun n => UInt8.ofNat n.toNat, i3, h3, by have := y2 (by decide); simp at l3 ⊢; omega, p3, fun k0 => ?_⟩
  rw [e1, show w64 (3 + 1) = 4 from rfl, e2, e3, B_strOf]
theorem l1Spoil_ends (N : Nat) (hN : 1048576 < N) (b : List Int) (hb : b.length ≤ 9223372036854775807) (s : List UInt8) (hs : s.length ≤ 200) (i h : Int) (h0 : 0 ≤ i) :
    ∃ (t : List UInt8) (i' h' : Int), t.length ≤ s.length + 3 ∧ 0 ≤ i' ∧ ∀ k0 : ByteArray → List Int → Int → Int → Option β, zj150 N (B s) b i h k0 = k0 (B t) b i' h' := by
  unfold zj150
  rw [B_size]
  by_cases hs0 : s.length = 0
  · obtain ⟨t, i1, h1, l1, p1, e1⟩ := l1Text_ends (β := β) N hN b hb i h h0
    refine ⟨t, i1, h1, by omega, p1, fun k0 => ?_⟩
    rw [beq_iff_eq.2 (by omega), cond_true, e1]
  · obtain ⟨x, i1, h1, x1, -, p1, e1⟩ := l1Below_ends (β := β) N (s.length : Int) b i h (by omega) h0 hb
    obtain ⟨y, i2, h2, -, -, p2, e2⟩ := l1Below_ends (β := β) N 4 b i1 h1 (by decide) p1 hb
    have hx : x < s.length := by have := x1 (by omega); omega
    have hw : w64 ((x : Int) + 1) = ((x + 1 : Nat) : Int) := w64_succ x (by omega)
    have hz : (B s).extract 0 (Int.toNat (x : Int)) = B (s.take x) := by rw [B_ext, Int.toNat_natCast]; simp
    have ht : (B s).extract (Int.toNat ((x + 1 : Nat) : Int)) s.length = B (s.drop (x + 1)) := by rw [B_ext, Int.toNat_natCast, List.take_length]
    have ht0 : (B s).extract (Int.toNat (x : Int)) s.length = B (s.drop x) := by rw [B_ext, Int.toNat_natCast, List.take_length]
    have hn0 : ((s.length : Int) == 0) = false := beq_eq_false_iff_ne.2 (by omega)
    simp only [hn0, cond_false, e1, e2, hw, hz, ht, ht0]
    have d1 : decide ((0 : Int) ≤ (x : Int)) = true := decide_eq_true (by omega)
    have d2 : decide ((x : Int) ≤ (s.length : Int)) = true := decide_eq_true (by omega)
    have d3 : decide ((0 : Int) ≤ ((x + 1 : Nat) : Int)) = true := decide_eq_true (by omega)
    have d4 : decide (((x + 1 : Nat) : Int) ≤ (s.length : Int)) = true := decide_eq_true (by omega)
    have d5 : decide ((x : Int) < (s.length : Int)) = true := decide_eq_true (by omega)
    have small : ∀ a c : List UInt8, a.length ≤ 1000 → c.length ≤ 1000 → decide ((B a).size + (B c).size ≤ 9223372036854775807) = true := fun a c ha hc => decide_eq_true (by rw [B_size, B_size]; omega)
    have one : ∀ n : Int, strOf (([] : List Int) ++ [n]) = B [UInt8.ofNat n.toNat] := B_one
    have lt : (s.take x).length ≤ 1000 := by rw [List.length_take]; omega
    have ld : (s.drop x).length ≤ 1000 := by rw [List.length_drop]; omega
    have ld1 : (s.drop (x + 1)).length ≤ 1000 := by rw [List.length_drop]; omega
    simp only [d1, d2, d3, d4, d5, gd, cond_true, one]
    by_cases y0 : (y : Int) = 0
    · refine ⟨s.take x ++ s.drop (x + 1), i2, h2, by rw [List.length_append, List.length_take, List.length_drop]; omega, p2, fun k0 => ?_⟩
      rw [beq_iff_eq.2 y0, cond_true, small _ _ lt ld1, B_app]; rfl
    · rw [beq_eq_false_iff_ne.2 y0]
      by_cases y1 : (y : Int) = 1
      · obtain ⟨z, i3, h3, -, p3, e3⟩ := l1Byte_ends (β := β) N b i2 h2 p2 hb
        refine ⟨(s.take x ++ [UInt8.ofNat (w8 (z : Int)).toNat]) ++ s.drop x, i3, h3, by simp only [List.length_append, List.length_take, List.length_drop, List.length_cons, List.length_nil]; omega, p3, fun k0 => ?_⟩
        rw [cond_false, beq_iff_eq.2 y1, cond_true, e3, small _ _ lt (by simp), cond_true, B_app, small _ _ (by simp; omega) ld, cond_true, B_app]
      · rw [beq_eq_false_iff_ne.2 y1]
        by_cases y2 : (y : Int) = 2
        · refine ⟨s.take x, i2, h2, by rw [List.length_take]; omega, p2, fun k0 => ?_⟩
          rw [cond_false, cond_false, beq_iff_eq.2 y2, cond_true]
        · obtain ⟨z, i3, h3, -, -, p3, e3⟩ := l1Below_ends (β := β) N 255 b i2 h2 (by decide) p2 hb
          refine ⟨(s.take x ++ [UInt8.ofNat (w8 (bits .xor .i64 (w64 (bt (B s) (x : Int))) (w64 (1 + (z : Int))))).toNat]) ++ s.drop (x + 1), i3, h3, by simp only [List.length_append, List.length_take, List.length_drop, List.length_cons, List.length_nil]; omega, p3, fun k0 => ?_⟩
          rw [cond_false, cond_false, beq_eq_false_iff_ne.2 y2, cond_false, e3, small _ _ lt (by simp), cond_true, B_app, small _ _ (by simp; omega) ld1, cond_true, B_app]
end Go.Proofs.YtddflpokemgnmaaGreatDoor
namespace Go.Proofs.YtddflpokemgnmaaGreatDoor
open Go.Rv
set_option linter.unusedVariables false
variable {β : Type}
theorem pow_in : ∀ i, i < 5 → ∀ m, m < 32 → (m &&& 2 ^ i != 0) = true → 2 ^ i ≤ m := by decide +kernel
theorem implies_n (N : Nat) (hN : 1048576 < N) (n w m v : Nat) (hn : n ≤ 5) (hm : m < 32) : ∃ b : Bool, ∀ K : Bool → Option β, zj9 N (n : Int) (w : Int) (m : Int) (v : Int) K = K b := by
  unfold zj9
  exact ⟨_, fun K => by rw [spec_l6Word_n N hN n m v hn hm]⟩
theorem prime_ends (N : Nat) (hN : 1048576 < N) (n w m v : Nat) (hn : n ≤ 5) (hm : m < 32) (hv : v < 32) : ∃ b : Bool, ∀ K : Bool → Option β, zj12 N (n : Int) (w : Int) (m : Int) (v : Int) K = K b := by
  unfold zj12
  obtain ⟨b, e1⟩ := implies_n (β := β) N hN n w m v hn hm
  cases b with
  | false => exact ⟨false, fun K => by rw [e1]; rfl⟩
  | true =>
    have key : ∀ (d F i : Nat), i + d = n → d < F → ∃ b : Bool, ∀ K : Bool → Option β, zj11 N F (i : Int) (n : Int) (w : Int) (m : Int) (v : Int) (fun e => K e) (K true) = K b := by
      intro d
      induction d with
      | zero =>
        intro F i hd hF
        obtain ⟨G, rfl⟩ : ∃ G, F = G + 1 := ⟨F - 1, by omega⟩
        refine ⟨true, fun K => ?_⟩
        simp only [zj11, zj10]
        rw [decide_eq_false (by omega), cond_false]
      | succ d ih =>
        intro F i hd hF
        obtain ⟨G, rfl⟩ : ∃ G, F = G + 1 := ⟨F - 1, by omega⟩
        obtain ⟨b, e2⟩ := ih G (i + 1) (by omega) (by omega)
        have hb : 2 ^ i ≤ 16 := (Nat.pow_le_pow_right (by decide) (by omega : i ≤ 4) : 2 ^ i ≤ 2 ^ 4)
        have hand : bits .and .i64 (m : Int) (shlI .i64 1 (i : Int)) = ((m &&& 2 ^ i : Nat) : Int) := by rw [shl_one i (by omega), bAnd _ _ (by omega) (by omega)]
        have hv2 : bits .and .i64 (v : Int) (shlI .i64 1 (i : Int)) = ((v &&& 2 ^ i : Nat) : Int) := by rw [shl_one i (by omega), bAnd _ _ (by omega) (by omega)]
        have hle : v &&& 2 ^ i ≤ v := Nat.and_le_left
        cases hc : (((m &&& 2 ^ i : Nat) : Int) != 0) with
        | false =>
          refine ⟨b, fun K => ?_⟩
          simp only [zj11, zj10]
          rw [decide_eq_true (by omega : (i : Int) < (n : Int)), cond_true, gd_true (decide_eq_true (by omega)), hand, hc, cond_false, w64_succ i (by omega), e2]
        | true =>
          have hm2 : 2 ^ i ≤ m := pow_in i (by omega) m hm (by
            have h0 : ((m &&& 2 ^ i : Nat) : Int) ≠ 0 := bne_iff_ne.1 hc
            exact bne_iff_ne.2 fun e => h0 (by rw [e]; rfl))
          have hz : (0 : Int) ≤ ((2 ^ i : Nat) : Int) := Int.natCast_nonneg _
          have hs1 : m - 2 ^ i ≤ m := Nat.sub_le _ _
          have hs2 : v - (v &&& 2 ^ i) ≤ v := Nat.sub_le _ _
          have e3 : w64 ((m : Int) - shlI .i64 1 (i : Int)) = ((m - 2 ^ i : Nat) : Int) := by rw [shl_one i (by omega), show (m : Int) - ((2 ^ i : Nat) : Int) = ((m - 2 ^ i : Nat) : Int) from (Int.ofNat_sub hm2).symm, w64_id (by omega) (by omega)]
          have e4 : w64 ((v : Int) - ((v &&& 2 ^ i : Nat) : Int)) = ((v - (v &&& 2 ^ i) : Nat) : Int) := by rw [show (v : Int) - ((v &&& 2 ^ i : Nat) : Int) = ((v - (v &&& 2 ^ i) : Nat) : Int) from (Int.ofNat_sub hle).symm, w64_id (by omega) (by omega)]
          obtain ⟨c, e5⟩ := implies_n (β := β) N hN n w (m - 2 ^ i) (v - (v &&& 2 ^ i)) hn (by omega)
          refine ⟨cond c false b, fun K => ?_⟩
          simp only [zj11, zj10]
          rw [decide_eq_true (by omega : (i : Int) < (n : Int)), cond_true, gd_true (decide_eq_true (by omega)), hand, hc, cond_true, e3, hv2, e4, e5, w64_succ i (by omega), e2]
          cases c <;> rfl
    obtain ⟨b, e2⟩ := key n N 0 (by omega) (by omega)
    exact ⟨b, fun K => by rw [e1]; exact e2 K⟩
def Ts (n : Nat) (o : List (Nat × Nat)) : Prop := ∀ t ∈ o, Good n t
theorem Ts_nil (n : Nat) : Ts n [] := fun t h => by cases h
theorem sz_16 : ∀ n, n ≤ 4 → 2 ^ 2 ^ n ≤ 65536 := by decide +kernel
theorem primes_ends (N : Nat) (hN : 1048576 < N) (n w : Nat) (hn : n ≤ 4) : ∃ o : List (Nat × Nat), Ts n o ∧ o.length ≤ 1000 ∧ ∀ K : List (Int × Int) → Option β, zj17 N (n : Int) (w : Int) K = K (tl o) := by
  have hs : 2 ^ n ≤ 16 := (Nat.pow_le_pow_right (by decide) hn : 2 ^ n ≤ 2 ^ 4)
  have hz : (0 : Int) ≤ ((2 ^ n : Nat) : Int) := Int.natCast_nonneg _
  have inner : ∀ (m : Nat), m < 2 ^ n → ∀ (d F v : Nat) (o : List (Nat × Nat)), v + d = m + 1 → d < F → Ts n o → o.length + d ≤ 600 → ∃ o', Ts n o' ∧ o'.length ≤ o.length + d ∧ ∀ K : Int → Int → Int → List (Int × Int) → Option β, zj14 N F (m : Int) (v : Int) (n : Int) (w : Int) (tl o) K = K (m : Int) (n : Int) (w : Int) (tl o') := by
    intro m hm d
    induction d with
    | zero =>
      intro F v o hd hF ho hl
      obtain ⟨G, rfl⟩ : ∃ G, F = G + 1 := ⟨F - 1, by omega⟩
      refine ⟨o, ho, by omega, fun K => ?_⟩
      simp only [zj14, zj13]
      rw [decide_eq_false (by omega), cond_false]
    | succ d ih =>
      intro F v o hd hF ho hl
      obtain ⟨G, rfl⟩ : ∃ G, F = G + 1 := ⟨F - 1, by omega⟩
      obtain ⟨b, e1⟩ := prime_ends (β := β) N hN n w m v (by omega) (by omega) (by omega)
      cases hc : (v &&& m == v) && b with
      | true =>
        rw [Bool.and_eq_true] at hc
        have hg : Good n (m, v) := ⟨by unfold okT; rw [decide_eq_true hm, hc.1]; rfl, (by omega : m < 32), (by omega : v < 32)⟩
        obtain ⟨o', h1, h2, e2⟩ := ih G (v + 1) (o ++ [(m, v)]) (by omega) (by omega) (fun t ht => by
          rcases List.mem_append.1 ht with h | h
          · exact ho t h
          · simp only [List.mem_singleton] at h; subst h; exact hg) (by simp; omega)
        refine ⟨o', h1, by simp at h2; omega, fun K => ?_⟩
        simp only [zj14, zj13]
        rw [decide_eq_true (by omega : (v : Int) ≤ (m : Int)), cond_true, and_sm v (by omega) m (by omega), hc.1, cond_true, e1, hc.2, cond_true, gd_true (decide_eq_true (by rw [tl_len]; simp; omega)), w64_succ v (by omega), List.nil_append, show tl o ++ [((m : Int), (v : Int))] = tl (o ++ [(m, v)]) from (tl_snoc o (m, v)).symm, e2]
      | false =>
        obtain ⟨o', h1, h2, e2⟩ := ih G (v + 1) o (by omega) (by omega) ho (by omega)
        refine ⟨o', h1, by omega, fun K => ?_⟩
        simp only [zj14, zj13]
        rw [decide_eq_true (by omega : (v : Int) ≤ (m : Int)), cond_true, and_sm v (by omega) m (by omega), e1, w64_succ v (by omega), e2]
        cases h3 : (v &&& m == v) with
        | false => rfl
        | true => rw [h3, Bool.true_and] at hc; rw [hc]; rfl
  have outer : ∀ (d F m : Nat) (o : List (Nat × Nat)), m + d = 2 ^ n → d < F → Ts n o → o.length ≤ 17 * m → ∃ o', Ts n o' ∧ o'.length ≤ 17 * 2 ^ n ∧ ∀ K : List (Int × Int) → Option β, zj16 N F (m : Int) (n : Int) (w : Int) (tl o) K = K (tl o') := by
    intro d
    induction d with
    | zero =>
      intro F m o hd hF ho hl
      obtain ⟨G, rfl⟩ : ∃ G, F = G + 1 := ⟨F - 1, by omega⟩
      have hm : m = 2 ^ n := by omega
      refine ⟨o, ho, by omega, fun K => ?_⟩
      simp only [zj16, zj15]
      rw [gd_true (decide_eq_true (by omega)), shl_one n (by omega), hm, decide_eq_false (by omega : ¬ ((2 ^ n : Nat) : Int) < ((2 ^ n : Nat) : Int)), cond_false]
    | succ d ih =>
      intro F m o hd hF ho hl
      obtain ⟨G, rfl⟩ : ∃ G, F = G + 1 := ⟨F - 1, by omega⟩
      obtain ⟨o1, h1, h2, e1⟩ := inner m (by omega) (m + 1) N 0 o (by omega) (by omega) ho (by omega)
      obtain ⟨o', h3, h4, e2⟩ := ih G (m + 1) o1 (by omega) (by omega) h1 (by omega)
      refine ⟨o', h3, h4, fun K => ?_⟩
      simp only [zj16, zj15]
      rw [gd_true (decide_eq_true (by omega)), shl_one n (by omega), decide_eq_true (by omega : (m : Int) < ((2 ^ n : Nat) : Int)), cond_true]
      refine (e1 _).trans ?_
      rw [w64_succ m (by omega), e2]
  obtain ⟨o, h1, h2, e⟩ := outer (2 ^ n) N 0 [] (by omega) (by omega) (Ts_nil n) (by simp)
  exact ⟨o, h1, by omega, fun K => e K⟩
theorem cover_ends (N : Nat) (hN : 1048576 < N) (n w : Nat) (hn : n ≤ 4) (o : List (Nat × Nat)) (ho : Ts n o) (hol : o.length ≤ 1000) : ∀ (k F i left : Nat), k ≤ 100 → k < F → i ≤ o.length → left < 2 ^ 63 →
    ∃ (r : List (Nat × Nat)) (b : Bool), Ts n r ∧ r.length ≤ k ∧ ∀ K : List (Int × Int) → Bool → Option β, zj21 N F (n : Int) (w : Int) (tl o) (i : Int) (left : Int) (k : Int) K = K (tl r) b := by
  intro k
  induction k with
  | zero =>
    intro F i left hk100 hF hi hleft
    obtain ⟨G, rfl⟩ : ∃ G, F = G + 1 := ⟨F - 1, by omega⟩
    cases hl : ((left : Int) == 0) with
    | true => exact ⟨[], true, Ts_nil n, by simp, fun K => by simp only [zj21, zj20]; rw [hl, cond_true]; rfl⟩
    | false => exact ⟨[], false, Ts_nil n, by simp, fun K => by simp only [zj21, zj20]; rw [hl, cond_false]; rfl⟩
  | succ k ih =>
    intro F i left hk100 hF hi hleft
    obtain ⟨G, rfl⟩ : ∃ G, F = G + 1 := ⟨F - 1, by omega⟩
    cases hl : ((left : Int) == 0) with
    | true => exact ⟨[], true, Ts_nil n, by simp, fun K => by simp only [zj21, zj20]; rw [hl, cond_true]; rfl⟩
    | false =>
      have hk : (((k + 1 : Nat) : Int) == 0) = false := beq_eq_false_iff_ne.2 (by omega)
      have loop : ∀ (d H j : Nat), j + d = o.length → d < H → ∃ (r : List (Nat × Nat)) (b : Bool), Ts n r ∧ r.length ≤ k + 1 ∧ ∀ K : List (Int × Int) → Bool → Option β,
          zj19 N (zj21 N G) H (tl o) (left : Int) ((k + 1 : Nat) : Int) (j : Int) (n : Int) (w : Int) (fun e0 e1 => K e1 e0) (K [] false) = K (tl r) b := by
        intro d
        induction d with
        | zero =>
          intro H j hd hH
          obtain ⟨H, rfl⟩ : ∃ G, H = G + 1 := ⟨H - 1, by omega⟩
          refine ⟨[], false, Ts_nil n, by simp, fun K => ?_⟩
          simp only [zj19, zj18, tl_len]
          rw [decide_eq_false (by omega), cond_false]
          rfl
        | succ d ihd =>
          intro H j hd hH
          obtain ⟨H, rfl⟩ : ∃ G, H = G + 1 := ⟨H - 1, by omega⟩
          have hj : j < o.length := by omega
          obtain ⟨g1, g2, g3⟩ := ho o[j] (List.getElem_mem hj)
          have hwb : tabw (fun x => x &&& o[j].1 == o[j].2) (2 ^ n) < 2 ^ 63 := by have h1 := tabw_lt (fun x => x &&& o[j].1 == o[j].2) (2 ^ n); have h2 := sz_16 n hn; omega
          have e1 := fun K => spec_l6Word_n (β := β) N hN n o[j].1 o[j].2 (by omega) g2 K
          generalize tabw (fun x => x &&& o[j].1 == o[j].2) (2 ^ n) = W at hwb e1
          obtain ⟨r0, b0, q1, q2, e0⟩ := ihd H (j + 1) (by omega) (by omega)
          have hle : left &&& W ≤ left := Nat.and_le_left
          have ha : bits .and .i64 (W : Int) (left : Int) = ((W &&& left : Nat) : Int) := bAnd _ _ hwb hleft
          have hb : bits .and .i64 (left : Int) (W : Int) = ((left &&& W : Nat) : Int) := bAnd _ _ hleft hwb
          have hsub : w64 ((left : Int) - ((left &&& W : Nat) : Int)) = ((left - (left &&& W) : Nat) : Int) := by
            rw [show (left : Int) - ((left &&& W : Nat) : Int) = ((left - (left &&& W) : Nat) : Int) by omega, w64_id (by omega) (by omega)]
          have hk1 : w64 (((k + 1 : Nat) : Int) - 1) = (k : Int) := by rw [show ((k + 1 : Nat) : Int) - 1 = (k : Int) by omega]; exact w64_id (by omega) (by omega)
          obtain ⟨r1, b1, p1, p2, e2⟩ := ih G (j + 1) (left - (left &&& W)) (by omega) (by omega) (by omega) (by omega)
          have unf : ∀ K : List (Int × Int) → Bool → Option β, zj19 N (zj21 N G) (H + 1) (tl o) (left : Int) ((k + 1 : Nat) : Int) (j : Int) (n : Int) (w : Int) (fun e0 e1 => K e1 e0) (K [] false) =
              cond (((W &&& left : Nat) : Int) == 0) (K (tl r0) b0) (cond b1 (gd (decide (((([] : List (Int × Int)) ++ [((o[j].1 : Int), (o[j].2 : Int))]).length + (tl r1).length) * 16 ≤ 140737488355328)) (K (([] ++ [((o[j].1 : Int), (o[j].2 : Int))]) ++ tl r1) true)) (K (tl r0) b0)) := fun K => by
            simp only [zj19, zj18, tl_len, rd_tl o j hj]
            rw [decide_eq_true (by omega : (j : Int) < (o.length : Int)), cond_true, gd_true (decide_eq_true (by omega)), gd_true rfl, e1, ha, hb, hsub, hk1, w64_succ j (by omega), e2, e0, gd_true (decide_eq_true (by omega)), gd_true rfl]
            rw [tl_len]
          cases h1 : (((W &&& left : Nat) : Int) == 0) with
          | true => exact ⟨r0, b0, q1, q2, fun K => by rw [unf, h1, cond_true]⟩
          | false =>
            cases b1 with
            | false => exact ⟨r0, b0, q1, q2, fun K => by rw [unf, h1, cond_false, cond_false]⟩
            | true =>
              refine ⟨o[j] :: r1, true, fun t ht => ?_, by simp; omega, fun K => ?_⟩
              · rcases List.mem_cons.1 ht with rfl | ht
                · exact ⟨g1, g2, g3⟩
                · exact p1 t ht
              · rw [unf, h1, cond_false, cond_true, gd_true (decide_eq_true (by rw [tl_len]; simp; omega))]
                rfl
      obtain ⟨r, b, q1, q2, e⟩ := loop (o.length - i) N i (by omega) (by omega)
      refine ⟨r, b, q1, q2, fun K => ?_⟩
      simp only [zj21, zj20]
      rw [hl, hk, cond_false, cond_false]
      exact e K
end Go.Proofs.YtddflpokemgnmaaGreatDoor
namespace Go.Proofs.YtddflpokemgnmaaGreatDoor
open Go.Rv
variable {β : Type}
theorem MinimalSum_ends (N : Nat) (hN : 1048576 < N) (n w : Int) : ∃ (o : List (Nat × Nat)) (b : Bool), (b = true → ∃ m : Nat, n = (m : Int) ∧ m ≤ 4 ∧ Ts m o ∧ o.length ≤ 8) ∧ ∀ K : List (Int × Int) → Bool → Option β, zj25 N n w K = K (tl o) b := by
  unfold zj25
  cases ht : isT n w with
  | false => exact ⟨[], false, (fun h => by cases h), fun K => by rw [spec_IsTable_eq, ht]; rfl⟩
  | true =>
    obtain ⟨m, v, rfl, rfl, hm, hv, hv2⟩ := isT_nat ht
    by_cases h4 : (m : Int) > 4
    · exact ⟨[], false, (fun h => by cases h), fun K => by rw [spec_IsTable_eq, ht, Bool.not_true, cond_false, decide_eq_true h4]; rfl⟩
    · have hm4 : m ≤ 4 := by omega
      obtain ⟨p, p1, p2, e1⟩ := primes_ends (β := β) N hN m v hm4
      have loop : ∀ (d F j : Nat), j + d = 9 → d < F → ∃ (o : List (Nat × Nat)) (b : Bool), (Ts m o ∧ o.length ≤ 8) ∧ ∀ K : List (Int × Int) → Bool → Option β, zj24 N F (j : Int) (m : Int) (v : Int) (tl p) (fun e0 e1 => K e1 e0) (K [] false) = K (tl o) b := by
        intro d
        induction d with
        | zero =>
          intro F j hd hF
          obtain ⟨G, rfl⟩ : ∃ G, F = G + 1 := ⟨F - 1, by omega⟩
          refine ⟨[], false, ⟨Ts_nil m, by simp⟩, fun K => ?_⟩
          simp only [zj24, zj23]
          rw [decide_eq_false (by omega), cond_false]
          rfl
        | succ d ih =>
          intro F j hd hF
          obtain ⟨G, rfl⟩ : ∃ G, F = G + 1 := ⟨F - 1, by omega⟩
          obtain ⟨r, b, g1, g2, e2⟩ := cover_ends (β := β) N hN m v hm4 p p1 p2 j N 0 v (by omega) (by omega) (by omega) (by omega)
          obtain ⟨o, c, g3, e3⟩ := ih G (j + 1) (by omega) (by omega)
          cases b with
          | true =>
            refine ⟨r, true, ⟨g1, by omega⟩, fun K => ?_⟩
            simp only [zj24, zj23]
            rw [decide_eq_true (by omega : (j : Int) ≤ 8), cond_true]
            exact e2 _
          | false =>
            refine ⟨o, c, g3, fun K => ?_⟩
            simp only [zj24, zj23]
            rw [decide_eq_true (by omega : (j : Int) ≤ 8), cond_true]
            refine (e2 _).trans ?_
            rw [cond_false, w64_succ j (by omega), e3]
      obtain ⟨o, b, g, e2⟩ := loop 9 N 0 rfl (by omega)
      refine ⟨o, b, (fun _ => ⟨m, rfl, hm4, g.1, g.2⟩), fun K => ?_⟩
      rw [spec_IsTable_eq, ht, Bool.not_true, cond_false, decide_eq_false h4, cond_false, e1]
      exact e2 K
def Wt (t : Int × Int) : Prop := (∃ m : Nat, t.1 = (m : Int) ∧ m < 32) ∧ (t.2 = -1 ∨ ∃ v : Nat, v < 2 ^ 63 ∧ t.2 = (v : Int))
theorem l6Draw_ends (N : Nat) (b : List Int) (hb : b.length ≤ 9223372036854775807) (i h : Int) (h0 : 0 ≤ i) :
    ∃ (x y i' h' : Int), Wt (x, y) ∧ 0 ≤ i' ∧ ∀ k0 : Int → Int → List Int → Int → Int → Option β, zj47 N 4 b i h k0 = k0 x y b i' h' := by
  unfold zj47
  rw [show shlI .i64 1 4 = 16 by decide +kernel]
  obtain ⟨x, i1, h1, x1, -, p1, e1⟩ := l1Below_ends (β := β) N 16 b i h (by decide) h0 hb
  obtain ⟨y, i2, h2, y1, -, p2, e2⟩ := l1Below_ends (β := β) N 16 b i1 h1 (by decide) p1 hb
  obtain ⟨q, i3, h3, p3, e3⟩ := l1Once_ends (β := β) N 12 b i2 h2 (by decide) p2 hb
  have hx := x1 (by decide)
  have hy := y1 (by decide)
  have hxy : x &&& y ≤ x := Nat.and_le_left
  simp only [gd_true (show decide ((0 : Int) ≤ 4) = true from rfl), e1, e2, e3]
  cases q with
  | false => exact ⟨x, (x &&& y : Nat), i3, h3, ⟨⟨x, rfl, by omega⟩, Or.inr ⟨x &&& y, by omega, rfl⟩⟩, p3, fun k0 => by rw [cond_false, bAnd _ _ (by omega) (by omega)]⟩
  | true =>
    obtain ⟨r, i', h', hr, q2, e4⟩ := l1PickInt_ends (β := β) N b i3 h3 ((((([] : List Int) ++ [(-1)]) ++ [1]) ++ [32]) ++ [9223372036854775807]) (by decide) (by decide) p3 hb
    refine ⟨x, r, i', h', ⟨⟨x, rfl, by omega⟩, ?_⟩, q2, fun k0 => by rw [cond_true]; exact e4 _⟩
    have key : ∀ r ∈ ((((([] : List Int) ++ [(-1)]) ++ [1]) ++ [32]) ++ [9223372036854775807]), r = -1 ∨ (0 ≤ r ∧ r < 9223372036854775808) := by decide
    rcases key r hr with h | ⟨g1, g2⟩
    · exact Or.inl h
    · exact Or.inr ⟨r.toNat, by omega, by omega⟩
theorem l28_loop (N : Nat) (b : List Int) (hb : b.length ≤ 9223372036854775807) : ∀ (d F : Nat) (i h : Int) (acc : List (Int × Int)), d < F → 0 ≤ i → acc.length + d ≤ 3 → (∀ t ∈ acc, Wt t) →
    ∃ (ts : List (Int × Int)) (i' h' : Int), (∀ t ∈ ts, Wt t) ∧ ts.length ≤ 3 ∧ 0 ≤ i' ∧ ∀ k0 : List Int → Int → Int → List (Int × Int) → Option β, zj49 N F (d : Int) b i h acc k0 = k0 b i' h' ts := by
  intro d
  induction d with
  | zero =>
    intro F i h acc hF h0 hl ha
    obtain ⟨G, rfl⟩ : ∃ G, F = G + 1 := ⟨F - 1, by omega⟩
    exact ⟨acc, i, h, ha, by omega, h0, fun k0 => rfl⟩
  | succ d ih =>
    intro F i h acc hF h0 hl ha
    obtain ⟨G, rfl⟩ : ∃ G, F = G + 1 := ⟨F - 1, by omega⟩
    obtain ⟨x, y, i1, h1, g, p1, e1⟩ := l6Draw_ends (β := β) N b hb i h h0
    obtain ⟨ts, i2, h2, g1, g2, p2, e2⟩ := ih G i1 h1 (acc ++ [(x, y)]) (by omega) p1 (by simp; omega) (fun t ht => by
      rcases List.mem_append.1 ht with h | h
      · exact ha t h
      · simp only [List.mem_singleton] at h; subst h; exact g)
    refine ⟨ts, i2, h2, g1, g2, p2, fun k0 => ?_⟩
    simp only [zj49, zj48]
    rw [decide_eq_true (by omega : ((d + 1 : Nat) : Int) > 0), cond_true, e1, gd_true (decide_eq_true (by simp; omega)), List.nil_append, show w64 (((d + 1 : Nat) : Int) - 1) = (d : Int) by rw [w64_id (by omega) (by omega)]; omega]
    exact e2 k0
def DT (n : Nat) (ts : List (Int × Int)) : Prop := (∃ o, Ts n o ∧ o.length ≤ 8 ∧ ts = tl o) ∨ (ts.length ≤ 3 ∧ ∀ t ∈ ts, Wt t)
theorem l28Draw_ends (N : Nat) (hN : 1048576 < N) (b : List Int) (hb : b.length ≤ 9223372036854775807) (i h : Int) (h0 : 0 ≤ i) :
    ∃ (n : Nat) (ts : List (Int × Int)) (i' h' : Int), n ≤ 4 ∧ DT n ts ∧ 0 ≤ i' ∧ ∀ k0 : Int → List Int → Int → Int → List (Int × Int) → Option β, zj50 N b i h k0 = k0 (n : Int) b i' h' ts := by
  unfold zj50
  obtain ⟨n, w, i1, h1, -, p1, e1⟩ := l2Any_ends (β := β) N (by omega) b i h h0 hb
  obtain ⟨o, c, g, e2⟩ := MinimalSum_ends (β := β) N hN n w
  have rnd : ∀ (i h : Int), 0 ≤ i → ∃ (ts : List (Int × Int)) (i' h' : Int), DT 4 ts ∧ 0 ≤ i' ∧ ∀ k0 : Int → List Int → Int → Int → List (Int × Int) → Option β, (zj27 N 4 b i h fun r0 r1 r2 r3 => zj49 N N r0 r1 r2 r3 [] fun e0 e1 e2 e3 => k0 4 e0 e1 e2 e3) = k0 ((4 : Nat) : Int) b i' h' ts := by
    intro i h h0
    obtain ⟨x, i1, h1, x1, -, p1, e1⟩ := l1Below_ends (β := β) N 4 b i h (by decide) h0 hb
    have hx := x1 (by decide)
    obtain ⟨ts, i2, h2, g1, g2, p2, e2⟩ := l28_loop (β := β) N b hb x N i1 h1 [] (by omega) p1 (by simp; omega) (fun t h => by cases h)
    exact ⟨ts, i2, h2, Or.inr ⟨g2, g1⟩, p2, fun k0 => by rw [e1]; exact e2 _⟩
  cases c with
  | false =>
    obtain ⟨ts, i2, h2, g1, p2, e3⟩ := rnd i1 h1 p1
    exact ⟨4, ts, i2, h2, by decide, g1, p2, fun k0 => by rw [e1]; refine (e2 _).trans ?_; rw [Bool.not_false, cond_true]; exact e3 k0⟩
  | true =>
    obtain ⟨m, rfl, hm, g1, g2⟩ := g rfl
    obtain ⟨q, i2, h2, p2, e3⟩ := l1Once_ends (β := β) N 4 b i1 h1 (by decide) p1 hb
    cases q with
    | true =>
      obtain ⟨ts, i3, h3, g3, p3, e4⟩ := rnd i2 h2 p2
      exact ⟨4, ts, i3, h3, by decide, g3, p3, fun k0 => by rw [e1]; refine (e2 _).trans ?_; rw [Bool.not_true, cond_false, e3, cond_true]; exact e4 k0⟩
    | false =>
      refine ⟨m, tl o, i2, h2, hm, Or.inl ⟨o, g1, g2, rfl⟩, p2, fun k0 => ?_⟩
      rw [e1]
      refine (e2 _).trans ?_
      rw [Bool.not_true, cond_false, e3, cond_false, show mnI 6 (m : Int) = (m : Int) by unfold mnI; split <;> omega]
theorem both_ends (N : Nat) (hN : 1048576 < N) (b : List Int) (hb : b.length ≤ 9223372036854775807) :
    ∃ (n : Nat) (ts : List (Int × Int)), n ≤ 4 ∧ DT n ts ∧ ∀ k : Int → List (Int × Int) → Option β, zj51 N b k = k (n : Int) ts := by
  unfold zj51
  obtain ⟨h', e1⟩ := l1New_ends (β := β) N (by omega) b hb
  obtain ⟨n, ts, i2, h2, hn, g, -, e2⟩ := l28Draw_ends (β := β) N hN b hb 0 h' (by omega)
  exact ⟨n, ts, hn, g, fun k => by rw [e1]; exact e2 _⟩
def okI (n : Nat) (t : Int × Int) : Bool := decide (0 ≤ t.2) && okT n t.1.toNat t.2.toNat
theorem IsTerm_w (N n : Nat) (hn : n ≤ 5) (t : Int × Int) (ht : Wt t) : (∀ K : Bool → Option β, zj76 N (n : Int) t.1 t.2 K = K (okI n t)) ∧ (∀ K : Bool → Option β, zj55 N (n : Int) t.1 t.2 K = K (okI n t)) := by
  obtain ⟨x, y⟩ := t
  obtain ⟨⟨m, e1, hm⟩, h2⟩ := ht
  dsimp only at e1 h2 ⊢
  subst e1
  have hs := sz5 n hn
  have big : ∀ v : Int, (v = -1 ∨ 32 ≤ v ∧ v < 2 ^ 63) → okI n ((m : Int), v) = false → (∀ K : Bool → Option β, zj76 N (n : Int) (m : Int) v K = K false) ∧ (∀ K : Bool → Option β, zj55 N (n : Int) (m : Int) v K = K false) := by
    intro v hv _
    constructor
    · intro K
      unfold zj76
      rw [spec_l1In_eq, decide_eq_true (by omega : (0 : Int) ≤ (n : Int)), decide_eq_true (by omega : (n : Int) ≤ 5), Bool.and_self, cond_true, gd_true rfl, shl_one n (by omega), spec_l1In_eq, spec_l1In_eq]
      have : (decide (0 ≤ v) && decide (v ≤ (m : Int))) = false := by
        rw [Bool.and_eq_false_iff, decide_eq_false_iff_not, decide_eq_false_iff_not]; omega
      rw [this]
      cases (decide ((0 : Int) ≤ (m : Int)) && decide ((m : Int) ≤ w64 (((2 ^ n : Nat) : Int) - 1))) <;> rfl
    · intro K
      unfold zj55 zj53 zj54
      rw [decide_eq_true (by omega : (n : Int) ≥ 0), cond_true, decide_eq_true (by omega : (n : Int) ≤ 5)]
      dsimp only
      rw [cond_true, decide_eq_true (by omega : (m : Int) ≥ 0), cond_true, gd_true rfl]
      cases decide ((m : Int) < shlI .i64 1 (n : Int)) with
      | false => rfl
      | true =>
        rw [cond_true]
        rcases hv with rfl | ⟨h1, h2⟩
        · rfl
        · obtain ⟨w, rfl⟩ := Int.eq_ofNat_of_zero_le (by omega : 0 ≤ v)
          rw [decide_eq_true (by omega : (w : Int) ≥ 0), cond_true, bAndNot _ _ (by omega) (by omega)]
          have hle : w &&& m ≤ m := Nat.and_le_right
          have hne : w ^^^ (w &&& m) ≠ 0 := by
            intro e
            have : w = w &&& m := by
              have h3 : w ^^^ (w &&& m) ^^^ (w &&& m) = 0 ^^^ (w &&& m) := by rw [e]
              rwa [Nat.xor_assoc, Nat.xor_self, Nat.xor_zero, Nat.zero_xor] at h3
            omega
          rw [beq_eq_false_iff_ne.2 (by omega : ((w ^^^ (w &&& m) : Nat) : Int) ≠ 0)]
  by_cases hsm : 0 ≤ y ∧ y < 32
  · obtain ⟨v, rfl⟩ := Int.eq_ofNat_of_zero_le hsm.1
    have e : okI n ((m : Int), (v : Int)) = okT n m v := by unfold okI; rw [decide_eq_true (by omega : (0 : Int) ≤ (v : Int)), Bool.true_and]; rfl
    rw [e]
    exact ⟨fun K => spec_IsTerm_n N n m v hn hm (by omega) K, fun K => impl_IsTerm_n N n m v hn hm (by omega) K⟩
  · have e : okI n ((m : Int), y) = false := by
      unfold okI
      rcases h2 with rfl | ⟨v, h1, rfl⟩
      · rfl
      · have hle : v &&& m ≤ m := Nat.and_le_right
        unfold okT
        rw [Int.toNat_natCast, Int.toNat_natCast, show (v &&& m == v) = false from beq_eq_false_iff_ne.2 (by omega), Bool.and_false, Bool.and_false]
    rw [e]
    refine big y ?_ e
    rcases h2 with rfl | ⟨v, h1, rfl⟩
    · exact Or.inl rfl
    · exact Or.inr ⟨by omega, by omega⟩
theorem rd_get (ts : List (Int × Int)) (i : Nat) (h : i < ts.length) : rd (0, 0) ts (i : Int) = ts[i] := rd_nat _ _ _ h
theorem any_loopI (N : Nat) (hN : 1048576 < N) (o : List (Int × Int)) (ho : o.length ≤ 1000) (h : Int → Int → (Bool → Option β) → Option β) (p : Int × Int → Bool) (hh : ∀ t ∈ o, ∀ k, h t.1 t.2 k = k (p t)) (K : Bool → Option β) : zj62 N o h K = K (o.any p) := by
  unfold zj62 zj61
  have key : ∀ (d i F : Nat), o.length - i = d → i ≤ o.length → d < F → zj60 N h F o (o.length : Int) (i : Int) (fun e => K (decide (e ≥ 0))) (K (decide ((-1 : Int) ≥ 0))) = K ((o.drop i).any p) := by
    intro d
    induction d with
    | zero =>
      intro i F hd hi hF
      obtain ⟨G, rfl⟩ : ∃ G, F = G + 1 := ⟨F - 1, by omega⟩
      simp only [zj60, zj59]
      rw [decide_eq_false (by omega), cond_false, List.drop_of_length_le (by omega)]
      rfl
    | succ d ih =>
      intro i F hd hi hF
      obtain ⟨G, rfl⟩ : ∃ G, F = G + 1 := ⟨F - 1, by omega⟩
      have hlt : i < o.length := by omega
      simp only [zj60, zj59, rd_get o i hlt]
      rw [decide_eq_true (by omega : (i : Int) < (o.length : Int)), cond_true, gd_true (decide_eq_true (by omega)), gd_true rfl, hh _ (List.getElem_mem hlt), w64_succ i (by omega), ih (i + 1) G (by omega) (by omega) (by omega), List.drop_eq_getElem_cons hlt, List.any_cons, decide_eq_true (by omega : (i : Int) ≥ 0)]
      cases p o[i] <;> rfl
  exact (key o.length 0 N (by omega) (by omega) (by omega)).trans (by rw [List.drop_zero])
theorem spec_l28Terms_w (N : Nat) (hN : 1048576 < N) (n : Nat) (hn : n ≤ 5) (ts : List (Int × Int)) (hl : ts.length ≤ 1000) (hw : ∀ t ∈ ts, Wt t) (hbad : ts.all (okI n) = false) (K : Bool → Option β) : zj79 N (n : Int) ts K = K false := by
  unfold zj79
  generalize (fun (e0 : Int) (e1 : List (Int × Int)) => zj4 N e0 0 5 fun r6 => cond r6 (K (decide ((e1.length : Int) ≤ 40))) (K false)) = k1
  have key : ∀ (d i F : Nat), ts.length - i = d → i ≤ ts.length → d < F → (ts.drop i).all (okI n) = false → zj78 N F (n : Int) ts (i : Int) (fun e => K e) k1 = K false := by
    intro d
    induction d with
    | zero =>
      intro i F hd hi hF hb
      rw [List.drop_of_length_le (by omega)] at hb
      cases hb
    | succ d ih =>
      intro i F hd hi hF hb
      obtain ⟨G, rfl⟩ : ∃ G, F = G + 1 := ⟨F - 1, by omega⟩
      have hlt : i < ts.length := by omega
      rw [List.drop_eq_getElem_cons hlt, List.all_cons] at hb
      simp only [zj78, zj77, rd_get ts i hlt]
      rw [decide_eq_true (by omega : (i : Int) < (ts.length : Int)), cond_true, gd_true (decide_eq_true (by omega)), gd_true rfl, (IsTerm_w N n hn _ (hw _ (List.getElem_mem hlt))).1, w64_succ i (by omega)]
      cases hc : okI n ts[i] with
      | false => rfl
      | true =>
        rw [hc, Bool.true_and] at hb
        rw [Bool.not_true, cond_false]
        exact ih (i + 1) G (by omega) (by omega) (by omega) hb
  exact key ts.length 0 N (by omega) (by omega) (by omega) (by rw [List.drop_zero]; exact hbad)
theorem impl_areValid_w (N : Nat) (hN : 1048576 < N) (n : Nat) (hn : n ≤ 5) (ts : List (Int × Int)) (hl : ts.length ≤ 1000) (hw : ∀ t ∈ ts, Wt t) (hbad : ts.all (okI n) = false) (K : Bool → Option β) : zj64 N (n : Int) ts K = K false := by
  unfold zj64 zj63 zj53
  rw [decide_eq_true (by omega : (n : Int) ≥ 0), cond_true, decide_eq_true (by omega : (n : Int) ≤ 5)]
  dsimp only
  rw [cond_true, any_loopI N hN ts hl _ (fun t => !okI n t) (fun t ht k => by
    unfold zj56
    rw [(IsTerm_w N n hn t (hw t ht)).2])]
  have : (ts.any fun t => !okI n t) = true := by
    rw [List.all_eq_not_any_not, Bool.not_eq_false'] at hbad
    exact hbad
  rw [this]
  rfl
theorem DT_cases (N : Nat) (hN : 1048576 < N) (n : Nat) (hn : n ≤ 4) (ts : List (Int × Int)) (h : DT n ts) : (∃ o, Ts n o ∧ o.length ≤ 8 ∧ ts = tl o) ∨ ((∀ K : Bool → Option β, zj79 N (n : Int) ts K = K false) ∧ (∀ K : Bool → Option β, zj64 N (n : Int) ts K = K false)) := by
  rcases h with h | ⟨hl, hw⟩
  · exact Or.inl h
  · cases hc : ts.all (okI n) with
    | false => exact Or.inr ⟨spec_l28Terms_w N hN n (by omega) ts (by omega) hw hc, impl_areValid_w N hN n (by omega) ts (by omega) hw hc⟩
    | true =>
      rw [List.all_eq_true] at hc
      refine Or.inl ⟨ts.map fun t => (t.1.toNat, t.2.toNat), fun t ht => ?_, by rw [List.length_map]; omega, ?_⟩
      · obtain ⟨u, hu, rfl⟩ := List.mem_map.1 ht
        obtain ⟨⟨m, e1, hm⟩, -⟩ := hw u hu
        have h1 := hc u hu
        unfold okI at h1
        rw [Bool.and_eq_true] at h1
        have h2 := h1.2
        unfold okT at h2
        rw [Bool.and_eq_true] at h2
        have h3 : u.2.toNat &&& u.1.toNat ≤ u.1.toNat := Nat.and_le_right
        rw [eq_of_beq h2.2] at h3
        exact ⟨h1.2, by dsimp only; omega, by dsimp only; omega⟩
      · unfold tl
        rw [List.map_map]
        refine (List.map_id' ts).symm.trans (List.map_congr_left fun u hu => ?_)
        obtain ⟨⟨m, e1, hm⟩, -⟩ := hw u hu
        have h1 := hc u hu
        unfold okI at h1
        rw [Bool.and_eq_true, decide_eq_true_eq] at h1
        have h0 := h1.1
        show u = (((u.1.toNat : Nat) : Int), ((u.2.toNat : Nat) : Int))
        rw [Int.toNat_of_nonneg h0, Int.toNat_of_nonneg (by omega)]
end Go.Proofs.YtddflpokemgnmaaGreatDoor
namespace Go.Proofs.YtddflpokemgnmaaGreatDoor
open Go.Rv
variable {β : Type}
def both (o : List (Nat × Nat)) (x y : Nat) : Bool := o.any fun t => (x &&& t.1 == t.2) && (y &&& t.1 == t.2)
def hz (o : List (Nat × Nat)) (x y : Nat) : Bool := !both o x y && (hold o x && hold o y)
theorem hold_cons (t : Nat × Nat) (o : List (Nat × Nat)) (x : Nat) : hold (t :: o) x = ((x &&& t.1 == t.2) || hold o x) := rfl
theorem both_cons (t : Nat × Nat) (o : List (Nat × Nat)) (x y : Nat) : both (t :: o) x y = (((x &&& t.1 == t.2) && (y &&& t.1 == t.2)) || both o x y) := rfl
theorem impl_isHazard_n (N : Nat) (hN : 1048576 < N) (n : Nat) (o : List (Nat × Nat)) (ho : o.length ≤ 1000) (hg : Ts n o) (x y : Nat) (hx : x < 32) (hy : y < 32) (K : Bool → Option β) : zj67 N (tl o) (x : Int) (y : Int) K = K (hz o x y) := by
  unfold zj67
  rw [tl_len]
  have key : ∀ (d i F : Nat) (a b : Bool), o.length - i = d → i ≤ o.length → d < F → zj66 N F (x : Int) (y : Int) a b (tl o) (o.length : Int) (i : Int) (fun e => K e) (fun e0 e1 => cond e0 (K e1) (K false)) = K (!both (o.drop i) x y && ((a || hold (o.drop i) x) && (b || hold (o.drop i) y))) := by
    intro d
    induction d with
    | zero =>
      intro i F a b hd hi hF
      obtain ⟨G, rfl⟩ : ∃ G, F = G + 1 := ⟨F - 1, by omega⟩
      simp only [zj66, zj65]
      rw [decide_eq_false (by omega), cond_false, List.drop_of_length_le (by omega)]
      cases a <;> cases b <;> rfl
    | succ d ih =>
      intro i F a b hd hi hF
      obtain ⟨G, rfl⟩ : ∃ G, F = G + 1 := ⟨F - 1, by omega⟩
      have hlt : i < o.length := by omega
      obtain ⟨g1, g2, g3⟩ := hg o[i] (List.getElem_mem hlt)
      have next := fun a b => ih (i + 1) G a b (by omega) (by omega) (by omega)
      rw [List.drop_eq_getElem_cons hlt, hold_cons, hold_cons, both_cons]
      simp only [zj66, zj65, rd_tl o i hlt, tl_len, zj57]
      rw [decide_eq_true (by omega : (i : Int) < (o.length : Int)), cond_true, gd_true (decide_eq_true (by omega)), gd_true rfl, and_smT x hx _ g2, and_smT y hy _ g2, natb, natb, w64_succ i (by omega)]
      cases hh1 : (x &&& o[i].1 == o[i].2) <;> cases hh2 : (y &&& o[i].1 == o[i].2) <;> cases a <;> cases b <;> simp only [cond_true, cond_false, next] <;> simp
  refine (key o.length 0 N false false (by omega) (by omega) (by omega)).trans ?_
  rw [List.drop_zero]
  rfl
theorem spec_l28Hazard_n (N : Nat) (hN : 1048576 < N) (n : Nat) (o : List (Nat × Nat)) (ho : o.length ≤ 1000) (hg : Ts n o) (x y : Nat) (hx : x < 32) (hy : y < 32) (K : Bool → Option β) : zj82 N (tl o) (x : Int) (y : Int) K = K (hz o x y) := by
  unfold zj82
  have key : ∀ (d i F : Nat) (a b : Bool), o.length - i = d → i ≤ o.length → d < F → zj81 N F (tl o) (x : Int) (y : Int) a b (i : Int) (fun e => K e) (fun e0 e1 => cond e0 (K e1) (K false)) = K (!both (o.drop i) x y && ((a || hold (o.drop i) x) && (b || hold (o.drop i) y))) := by
    intro d
    induction d with
    | zero =>
      intro i F a b hd hi hF
      obtain ⟨G, rfl⟩ : ∃ G, F = G + 1 := ⟨F - 1, by omega⟩
      simp only [zj81, zj80, tl_len]
      rw [decide_eq_false (by omega), cond_false, List.drop_of_length_le (by omega)]
      cases a <;> cases b <;> rfl
    | succ d ih =>
      intro i F a b hd hi hF
      obtain ⟨G, rfl⟩ : ∃ G, F = G + 1 := ⟨F - 1, by omega⟩
      have hlt : i < o.length := by omega
      obtain ⟨g1, g2, g3⟩ := hg o[i] (List.getElem_mem hlt)
      have next := fun a b => ih (i + 1) G a b (by omega) (by omega) (by omega)
      rw [List.drop_eq_getElem_cons hlt, hold_cons, hold_cons, both_cons]
      simp only [zj81, zj80, rd_tl o i hlt, tl_len]
      simp only [gd_true (decide_eq_true (by omega : (0 : Int) ≤ (i : Int))), decide_eq_true (by omega : (i : Int) < (o.length : Int)), gd_true (rfl : true = true), cond_true]
      rw [and_smT x hx _ g2, and_smT y hy _ g2, natb, natb, w64_succ i (by omega)]
      cases hh1 : (x &&& o[i].1 == o[i].2) <;> cases hh2 : (y &&& o[i].1 == o[i].2) <;> cases a <;> cases b <;> simp only [cond_true, cond_false, next] <;> simp
  refine (key o.length 0 N false false (by omega) (by omega) (by omega)).trans ?_
  rw [List.drop_zero]
  rfl
def hzr (o : List (Nat × Nat)) (x : Nat) : Nat → List (Nat × Nat)
  | 0 => []
  | i + 1 => hzr o x i ++ cond (!x.testBit i && hz o x (x ||| 2 ^ i)) [(x, x ||| 2 ^ i)] []
def hzl (n : Nat) (o : List (Nat × Nat)) : Nat → List (Nat × Nat)
  | 0 => []
  | x + 1 => hzl n o x ++ hzr o x n
def rows (l : List (Nat × Nat)) : List (List Int) := l.map fun p => [(p.1 : Int), (p.2 : Int)]
theorem rows_len (l : List (Nat × Nat)) : (rows l).length = l.length := List.length_map ..
theorem rows_snoc (l : List (Nat × Nat)) (p : Nat × Nat) : rows (l ++ [p]) = rows l ++ [[(p.1 : Int), (p.2 : Int)]] := by unfold rows; rw [List.map_append]; rfl
def uns (x : Nat) : Nat → Nat
  | 0 => 0
  | i + 1 => uns x i + cond (x.testBit i) 0 1
def unsl (n : Nat) : Nat → Nat
  | 0 => 0
  | x + 1 => unsl n x + uns x n
theorem hzr_set {o : List (Nat × Nat)} {x i : Nat} (hb : x.testBit i = true) : hzr o x (i + 1) = hzr o x i := by
  show hzr o x i ++ cond (!x.testBit i && hz o x (x ||| 2 ^ i)) [(x, x ||| 2 ^ i)] [] = _
  rw [hb]
  exact List.append_nil _
theorem hzr_no {o : List (Nat × Nat)} {x i : Nat} (hh : hz o x (x ||| 2 ^ i) = false) : hzr o x (i + 1) = hzr o x i := by
  show hzr o x i ++ cond (!x.testBit i && hz o x (x ||| 2 ^ i)) [(x, x ||| 2 ^ i)] [] = _
  rw [hh, Bool.and_false]
  exact List.append_nil _
theorem hzr_yes {o : List (Nat × Nat)} {x i : Nat} (hb : x.testBit i = false) (hh : hz o x (x ||| 2 ^ i) = true) (l : List (Nat × Nat)) : rows (l ++ hzr o x (i + 1)) = rows (l ++ hzr o x i) ++ [[(x : Int), ((x ||| 2 ^ i : Nat) : Int)]] := by
  show rows (l ++ (hzr o x i ++ cond (!x.testBit i && hz o x (x ||| 2 ^ i)) [(x, x ||| 2 ^ i)] [])) = _
  rw [hb, hh, ← List.append_assoc, show cond (!false && true) [(x, x ||| 2 ^ i)] [] = [(x, x ||| 2 ^ i)] from rfl, rows_snoc]
theorem hzr_len (o : List (Nat × Nat)) (x : Nat) : ∀ i, (hzr o x i).length ≤ uns x i
  | 0 => Nat.le_refl _
  | i + 1 => by
    have := hzr_len o x i
    simp only [hzr, uns, List.length_append]
    cases x.testBit i <;> cases hz o x (x ||| 2 ^ i) <;> simp <;> omega
theorem hzl_len (n : Nat) (o : List (Nat × Nat)) : ∀ m, (hzl n o m).length ≤ unsl n m
  | 0 => Nat.le_refl _
  | m + 1 => by
    have h1 := hzl_len n o m
    have h2 := hzr_len o m n
    simp only [hzl, unsl, List.length_append]
    omega
theorem unsl_32 : ∀ n, n ≤ 4 → unsl n (2 ^ n) ≤ 32 := by decide +kernel
theorem uns_le (x : Nat) : ∀ i, uns x i ≤ i
  | 0 => Nat.le_refl _
  | i + 1 => by
    have := uns_le x i
    simp only [uns]
    cases x.testBit i <;> simp <;> omega
theorem unsl_le (n : Nat) : ∀ m, unsl n m ≤ n * m
  | 0 => Nat.le_refl _
  | m + 1 => by
    have h1 := unsl_le n m
    have h2 := uns_le m n
    simp only [unsl]
    rw [Nat.mul_succ]
    omega
theorem xor_in : ∀ x : Nat, x < 32 → ∀ i : Nat, i < 5 → decide ((x : Int) < bits .xor .i64 (x : Int) (shlI .i64 1 (i : Int))) = !x.testBit i ∧ (x.testBit i = false → bits .xor .i64 (x : Int) (shlI .i64 1 (i : Int)) = ((x ||| 2 ^ i : Nat) : Int)) ∧ bits .or .i64 (x : Int) (shlI .i64 1 (i : Int)) = ((x ||| 2 ^ i : Nat) : Int) ∧ x ||| 2 ^ i < 32 := by decide +kernel
theorem impl_hazards_n (N : Nat) (hN : 1048576 < N) (n : Nat) (hn : n ≤ 4) (o : List (Nat × Nat)) (ho : o.length ≤ 1000) (hg : Ts n o) (K : List (List Int) → Option β) : zj72 N (n : Int) (tl o) K = K (rows (hzl n o (2 ^ n))) := by
  have hs : 2 ^ n ≤ 16 := (Nat.pow_le_pow_right (by decide) hn : 2 ^ n ≤ 2 ^ 4)
  have hz0 : (0 : Int) ≤ ((2 ^ n : Nat) : Int) := Int.natCast_nonneg _
  unfold zj72
  rw [gd_true (decide_eq_true (by omega)), shl_one n (by omega)]
  refine loop_st (fun F x => zj71 N F (n : Int) (tl o) ((2 ^ n : Nat) : Int) (x : Int) (rows (hzl n o x)) fun e => K e) (2 ^ n) _ (fun F x hx => ?_) (fun F => ?_) N 0 (by omega) (by omega)
  · simp only [zj71, zj70]
    rw [decide_eq_true (by omega : (x : Int) < ((2 ^ n : Nat) : Int)), cond_true]
    have hl1 := hzl_len n o x
    have hl2 := unsl_le n x
    have hl3 : n * x ≤ 4 * 16 := Nat.mul_le_mul hn (by omega)
    refine (loop_st (fun H i => zj69 N H (n : Int) (tl o) (x : Int) ((2 ^ n : Nat) : Int) (x : Int) (n : Int) (i : Int) (rows (hzl n o x ++ hzr o x i)) fun e0 e1 e2 e3 e4 => zj71 N F e0 e1 e2 (w64 (e3 + 1)) e4 fun e => K e) n (zj71 N F (n : Int) (tl o) ((2 ^ n : Nat) : Int) ((x + 1 : Nat) : Int) (rows (hzl n o (x + 1))) fun e => K e) (fun H i hi => ?_) (fun H => ?_) N 0 (by omega) (by omega) |> fun h => Eq.trans (by rw [show hzr o x 0 = [] from rfl, List.append_nil]; rfl) h)
    · obtain ⟨c1, c2, -, c3⟩ := xor_in x (by omega) i (by omega)
      have hl4 := hzr_len o x i
      have hl5 := uns_le x i
      simp only [zj69, zj68]
      rw [decide_eq_true (by omega : (i : Int) < (n : Int)), cond_true, gd_true (decide_eq_true (by omega)), c1, w64_succ i (by omega)]
      cases hb : x.testBit i with
      | true =>
        rw [show (!true) = false from rfl, cond_false, hzr_set hb]
      | false =>
        rw [c2 hb, show (!false) = true from rfl, cond_true, impl_isHazard_n N hN n o ho hg x _ (by omega) c3]
        cases hh : hz o x (x ||| 2 ^ i) with
        | true =>
          rw [cond_true, gd_true (decide_eq_true (by rw [rows_len, List.length_append]; simp; omega)), hzr_yes hb hh]
          rfl
        | false =>
          rw [cond_false, hzr_no hh]
    · simp only [zj69, zj68]
      rw [decide_eq_false (by omega : ¬ (n : Int) < (n : Int)), cond_false, w64_succ x (by omega)]
      rfl
  · simp only [zj71, zj70]
    rw [decide_eq_false (by omega : ¬ ((2 ^ n : Nat) : Int) < ((2 ^ n : Nat) : Int)), cond_false]
theorem spec_HazardsOf_n (N : Nat) (hN : 1048576 < N) (n : Nat) (hn : n ≤ 4) (o : List (Nat × Nat)) (ho : o.length ≤ 40) (hg : Ts n o) (K : List (List Int) → Bool → Option β) : zj87 N (n : Int) (tl o) K = K (rows (hzl n o (2 ^ n))) true := by
  have hs : 2 ^ n ≤ 16 := (Nat.pow_le_pow_right (by decide) hn : 2 ^ n ≤ 2 ^ 4)
  have hz0 : (0 : Int) ≤ ((2 ^ n : Nat) : Int) := Int.natCast_nonneg _
  unfold zj87
  rw [spec_valid N hN n (by omega) o (by omega) hg, decide_eq_true (by omega), Bool.not_true, cond_false]
  refine loop_st (fun F x => zj86 N F (n : Int) (tl o) (x : Int) (rows (hzl n o x)) fun e => K e true) (2 ^ n) _ (fun F x hx => ?_) (fun F => ?_) N 0 (by omega) (by omega)
  · simp only [zj86, zj85]
    rw [gd_true (decide_eq_true (by omega)), shl_one n (by omega), decide_eq_true (by omega : (x : Int) < ((2 ^ n : Nat) : Int)), cond_true]
    have hl1 := hzl_len n o x
    have hl2 := unsl_le n x
    have hl3 : n * x ≤ 4 * 16 := Nat.mul_le_mul hn (by omega)
    refine (loop_st (fun H i => zj84 N H (n : Int) (tl o) (x : Int) (i : Int) (rows (hzl n o x ++ hzr o x i)) fun e0 e1 e2 e3 => zj86 N F e0 e1 (w64 (e2 + 1)) e3 fun e => K e true) n (zj86 N F (n : Int) (tl o) ((x + 1 : Nat) : Int) (rows (hzl n o (x + 1))) fun e => K e true) (fun H i hi => ?_) (fun H => ?_) N 0 (by omega) (by omega) |> fun h => Eq.trans (by rw [show hzr o x 0 = [] from rfl, List.append_nil]; rfl) h)
    · obtain ⟨-, -, c2, c3⟩ := xor_in x (by omega) i (by omega)
      have hl4 := hzr_len o x i
      have hl5 := uns_le x i
      simp only [zj84, zj83]
      rw [decide_eq_true (by omega : (i : Int) < (n : Int)), cond_true, gd_true (decide_eq_true (by omega)), bit0 x i (by omega), w64_succ i (by omega), c2]
      cases hb : x.testBit i with
      | true =>
        rw [show (!true) = false from rfl, cond_false, hzr_set hb]
      | false =>
        rw [show (!false) = true from rfl, cond_true, gd_true (decide_eq_true (by omega)), spec_l28Hazard_n N hN n o (by omega) hg x _ (by omega) c3]
        cases hh : hz o x (x ||| 2 ^ i) with
        | true =>
          rw [cond_true, gd_true (decide_eq_true (by omega)), gd_true (decide_eq_true (by rw [rows_len, List.length_append]; simp; omega)), hzr_yes hb hh]
          rfl
        | false =>
          rw [cond_false, hzr_no hh]
    · simp only [zj84, zj83]
      rw [decide_eq_false (by omega : ¬ (n : Int) < (n : Int)), cond_false, w64_succ x (by omega)]
      rfl
  · simp only [zj86, zj85]
    rw [gd_true (decide_eq_true (by omega)), shl_one n (by omega), decide_eq_false (by omega : ¬ ((2 ^ n : Nat) : Int) < ((2 ^ n : Nat) : Int)), cond_false]
def Edge (n : Nat) (p : Nat × Nat) : Prop := ∃ x, x < 2 ^ n ∧ ∃ i, i < n ∧ x.testBit i = false ∧ p = (x, x ||| 2 ^ i)
theorem hzr_mem (o : List (Nat × Nat)) (x : Nat) (p : Nat × Nat) : ∀ i, p ∈ hzr o x i ↔ ∃ j, j < i ∧ x.testBit j = false ∧ hz o x (x ||| 2 ^ j) = true ∧ p = (x, x ||| 2 ^ j)
  | 0 => ⟨(fun h => by cases h), (fun ⟨j, h, _⟩ => by omega)⟩
  | i + 1 => by
    have ih := hzr_mem o x p i
    rw [hzr, List.mem_append, ih]
    constructor
    · rintro (⟨j, h1, h2⟩ | h)
      · exact ⟨j, by omega, h2⟩
      · cases hb : x.testBit i <;> cases hh : hz o x (x ||| 2 ^ i) <;> rw [hb, hh] at h
        · cases h
        · exact ⟨i, by omega, hb, hh, List.mem_singleton.1 h⟩
        · cases h
        · cases h
    · rintro ⟨j, h1, h2, h3, h4⟩
      rcases Nat.lt_or_ge j i with h | h
      · exact Or.inl ⟨j, h, h2, h3, h4⟩
      · have : j = i := by omega
        subst this
        refine Or.inr ?_
        rw [h2, h3]
        exact List.mem_singleton.2 h4
theorem hzl_mem (n : Nat) (o : List (Nat × Nat)) (p : Nat × Nat) : ∀ m, p ∈ hzl n o m ↔ ∃ x, x < m ∧ ∃ j, j < n ∧ x.testBit j = false ∧ hz o x (x ||| 2 ^ j) = true ∧ p = (x, x ||| 2 ^ j)
  | 0 => ⟨(fun h => by cases h), (fun ⟨j, h, _⟩ => by omega)⟩
  | m + 1 => by
    have ih := hzl_mem n o p m
    rw [hzl, List.mem_append, ih, hzr_mem]
    constructor
    · rintro (⟨x, h1, h2⟩ | h)
      · exact ⟨x, by omega, h2⟩
      · exact ⟨m, by omega, h⟩
    · rintro ⟨x, h1, h2⟩
      rcases Nat.lt_or_ge x m with h | h
      · exact Or.inl ⟨x, h, h2⟩
      · have : x = m := by omega
        subst this
        exact Or.inr h2
theorem hzl_edge (n : Nat) (o : List (Nat × Nat)) (p : Nat × Nat) (h : p ∈ hzl n o (2 ^ n)) : Edge n p ∧ hz o p.1 p.2 = true := by
  obtain ⟨x, h1, j, h2, h3, h4, rfl⟩ := (hzl_mem n o p _).1 h
  exact ⟨⟨x, h1, j, h2, h3, rfl⟩, h4⟩
theorem hzl_nil (n : Nat) (o : List (Nat × Nat)) (h : ∀ p, Edge n p → hz o p.1 p.2 = false) : hzl n o (2 ^ n) = [] := by
  refine List.eq_nil_iff_forall_not_mem.2 fun p hp => ?_
  obtain ⟨h1, h2⟩ := hzl_edge n o p hp
  rw [h p h1] at h2
  cases h2
def rept (n : Nat) (p : Nat × Nat) : Nat × Nat := (2 ^ n - 1 - (p.2 - p.1), p.1)
theorem edge_bits : ∀ n : Nat, n ≤ 4 → ∀ x : Nat, x < 2 ^ n → ∀ i : Nat, i < n → x.testBit i = false → bits .andNot .i64 ((2 ^ n - 1 : Nat) : Int) (bits .xor .i64 (x : Int) ((x ||| 2 ^ i : Nat) : Int)) = ((2 ^ n - 1 - 2 ^ i : Nat) : Int) ∧ bits .xor .i64 (x : Int) ((x ||| 2 ^ i : Nat) : Int) = ((2 ^ i : Nat) : Int) := by decide +kernel
theorem edge_nat : ∀ n : Nat, n ≤ 4 → ∀ x : Nat, x < 2 ^ n → ∀ i : Nat, i < n → x.testBit i = false → x ||| 2 ^ i < 2 ^ n ∧ (x ||| 2 ^ i) - x = 2 ^ i := by decide +kernel
theorem edge_nat2 : ∀ n : Nat, n ≤ 4 → ∀ x : Nat, x < 2 ^ n → ∀ i : Nat, i < n → x.testBit i = false → x < x ||| 2 ^ i ∧ 2 ^ n - 1 - 2 ^ i < 32 := by decide +kernel
theorem edge_good : ∀ n, n ≤ 4 → ∀ x, x < 2 ^ n → ∀ i, i < n → x.testBit i = false → okT n (2 ^ n - 1 - 2 ^ i) x = true ∧ x &&& (2 ^ n - 1 - 2 ^ i) = x ∧ (x ||| 2 ^ i) &&& (2 ^ n - 1 - 2 ^ i) = x := by decide +kernel
theorem edge_all (n : Nat) (hn : n ≤ 4) (x : Nat) (hx : x < 2 ^ n) (i : Nat) (hi : i < n) (hb : x.testBit i = false) : x ||| 2 ^ i < 2 ^ n ∧ x < x ||| 2 ^ i ∧ (x ||| 2 ^ i) - x = 2 ^ i ∧ 2 ^ n - 1 - 2 ^ i < 32 ∧ okT n (2 ^ n - 1 - 2 ^ i) x = true ∧ x &&& (2 ^ n - 1 - 2 ^ i) = x ∧ (x ||| 2 ^ i) &&& (2 ^ n - 1 - 2 ^ i) = x ∧ bits .andNot .i64 ((2 ^ n - 1 : Nat) : Int) (bits .xor .i64 (x : Int) ((x ||| 2 ^ i : Nat) : Int)) = ((2 ^ n - 1 - 2 ^ i : Nat) : Int) ∧ bits .xor .i64 (x : Int) ((x ||| 2 ^ i : Nat) : Int) = ((2 ^ i : Nat) : Int) :=
  have h1 := edge_nat n hn x hx i hi hb
  have h3 := edge_nat2 n hn x hx i hi hb
  have h2 := edge_good n hn x hx i hi hb
  ⟨h1.1, h3.1, h1.2, h3.2, h2.1, h2.2.1, h2.2.2, edge_bits n hn x hx i hi hb⟩
theorem edge_two : ∀ n, n ≤ 4 → ∀ x, x < 2 ^ n → ∀ i, i < n → x.testBit i = false → ∀ z, z < 2 ^ n → (z &&& (2 ^ n - 1 - 2 ^ i) == x) = (z == x || z == (x ||| 2 ^ i)) := by decide +kernel
def rep (n : Nat) : List (Nat × Nat) → List (Nat × Nat) → List (Nat × Nat)
  | [], acc => acc
  | p :: ps, acc => rep n ps (cond (hz acc p.1 p.2) (acc ++ [rept n p]) acc)
theorem rept_edge {n : Nat} (hn : n ≤ 4) {p : Nat × Nat} (h : Edge n p) : p.1 < 2 ^ n ∧ p.2 < 2 ^ n ∧ Good n (rept n p) ∧ (p.1 &&& (rept n p).1 = (rept n p).2) ∧ (p.2 &&& (rept n p).1 = (rept n p).2) ∧ ∀ z, z < 2 ^ n → (z &&& (rept n p).1 == (rept n p).2) = true → z = p.1 ∨ z = p.2 := by
  have hs : 2 ^ n ≤ 16 := (Nat.pow_le_pow_right (by decide) hn : 2 ^ n ≤ 2 ^ 4)
  obtain ⟨x, hx, i, hi, hb, rfl⟩ := h
  obtain ⟨e1, e2, e3, e4, e5, e6, e7, -⟩ := edge_all n hn x hx i hi hb
  unfold rept
  dsimp only
  rw [e3]
  refine ⟨hx, e1, ⟨e5, e4, by dsimp only; omega⟩, e6, e7, fun z hz0 hz1 => ?_⟩
  rw [edge_two n hn x hx i hi hb z hz0, Bool.or_eq_true] at hz1
  exact hz1.imp eq_of_beq eq_of_beq
theorem hold_snoc (o : List (Nat × Nat)) (t : Nat × Nat) (x : Nat) : hold (o ++ [t]) x = (hold o x || (x &&& t.1 == t.2)) := by
  unfold hold; rw [List.any_append]; simp
theorem both_snoc (o : List (Nat × Nat)) (t : Nat × Nat) (x y : Nat) : both (o ++ [t]) x y = (both o x y || ((x &&& t.1 == t.2) && (y &&& t.1 == t.2))) := by
  unfold both; rw [List.any_append]; simp
theorem step_hold {n : Nat} (hn : n ≤ 4) {p : Nat × Nat} (h : Edge n p) (acc : List (Nat × Nat)) (z : Nat) (hz0 : z < 2 ^ n) : hold (cond (hz acc p.1 p.2) (acc ++ [rept n p]) acc) z = hold acc z := by
  obtain ⟨-, -, -, -, -, h1⟩ := rept_edge hn h
  cases hh : hz acc p.1 p.2 with
  | false => rfl
  | true =>
    rw [cond_true, hold_snoc]
    cases hc : (z &&& (rept n p).1 == (rept n p).2) with
    | false => rw [Bool.or_false]
    | true =>
      unfold hz at hh
      rw [Bool.and_eq_true, Bool.and_eq_true] at hh
      rcases h1 z hz0 hc with rfl | rfl
      · rw [hh.2.1]; rfl
      · rw [hh.2.2]; rfl
theorem step_both {n : Nat} {p : Nat × Nat} (acc : List (Nat × Nat)) (x y : Nat) (hb : both acc x y = true) : both (cond (hz acc p.1 p.2) (acc ++ [rept n p]) acc) x y = true := by
  cases hh : hz acc p.1 p.2 with
  | false => exact hb
  | true => rw [cond_true, both_snoc, hb, Bool.true_or]
theorem rep_inv {n : Nat} (hn : n ≤ 4) : ∀ (ps acc : List (Nat × Nat)), (∀ p ∈ ps, Edge n p) → (Ts n acc → Ts n (rep n ps acc)) ∧ (rep n ps acc).length ≤ acc.length + ps.length ∧ (∀ z, z < 2 ^ n → hold (rep n ps acc) z = hold acc z) ∧ (∀ x y, both acc x y = true → both (rep n ps acc) x y = true)
  | [], acc, h => ⟨fun h => h, Nat.le_refl _, fun z _ => rfl, fun x y h => h⟩
  | p :: ps, acc, h => by
    have hp := h p List.mem_cons_self
    obtain ⟨i1, i2, i3, i4⟩ := rep_inv hn ps (cond (hz acc p.1 p.2) (acc ++ [rept n p]) acc) fun q hq => h q (List.mem_cons_of_mem _ hq)
    rw [rep]
    refine ⟨fun ht => i1 ?_, ?_, fun z hz0 => (i3 z hz0).trans (step_hold hn hp acc z hz0), fun x y hb => i4 x y (step_both acc x y hb)⟩
    · cases hz acc p.1 p.2 with
      | false => exact ht
      | true =>
        intro t hq
        rcases List.mem_append.1 hq with hq | hq
        · exact ht t hq
        · rw [List.mem_singleton.1 hq]; exact (rept_edge hn hp).2.2.1
    · refine Nat.le_trans i2 ?_
      cases hz acc p.1 p.2 <;> simp <;> omega
theorem hz_mono {o o' : List (Nat × Nat)} {x y : Nat} (hx : hold o' x = hold o x) (hy : hold o' y = hold o y) (hb : both o x y = true → both o' x y = true) (h : hz o x y = false) : hz o' x y = false := by
  unfold hz at *
  rw [hx, hy]
  cases hc : both o x y with
  | true => rw [hb hc]; rfl
  | false =>
    rw [hc] at h
    rw [show (hold o x && hold o y) = false from h, Bool.and_false]
theorem rep_fix {n : Nat} (hn : n ≤ 4) : ∀ (ps acc : List (Nat × Nat)), (∀ p ∈ ps, Edge n p) → ∀ p ∈ ps, hz (rep n ps acc) p.1 p.2 = false
  | [], acc, h => fun p hp => by cases hp
  | q :: ps, acc, h => fun p hp => by
    have hq := h q List.mem_cons_self
    have hps : ∀ p ∈ ps, Edge n p := fun p hp => h p (List.mem_cons_of_mem _ hp)
    rw [rep]
    rcases List.mem_cons.1 hp with rfl | hp
    · obtain ⟨-, -, i3, i4⟩ := rep_inv hn ps (cond (hz acc p.1 p.2) (acc ++ [rept n p]) acc) hps
      obtain ⟨e1, e2, -, e3, e4, -⟩ := rept_edge hn hq
      refine hz_mono (i3 _ e1) (i3 _ e2) (i4 _ _) ?_
      cases hh : hz acc p.1 p.2 with
      | false => exact hh
      | true =>
        rw [cond_true]
        unfold hz
        rw [both_snoc, e3, e4, beq_self_eq_true, Bool.and_self, Bool.or_true]
        rfl
    · exact rep_fix hn ps _ hps p hp
def fixd (n : Nat) (o : List (Nat × Nat)) : List (Nat × Nat) := rep n (hzl n o (2 ^ n)) o
theorem fixd_all {n : Nat} (hn : n ≤ 4) (o : List (Nat × Nat)) (hg : Ts n o) (ho : o.length ≤ 8) : Ts n (fixd n o) ∧ (fixd n o).length ≤ 40 ∧ (∀ z, z < 2 ^ n → hold (fixd n o) z = hold o z) ∧ hzl n (fixd n o) (2 ^ n) = [] := by
  have he : ∀ p ∈ hzl n o (2 ^ n), Edge n p := fun p hp => (hzl_edge n o p hp).1
  obtain ⟨i1, i2, i3, i4⟩ := rep_inv hn (hzl n o (2 ^ n)) o he
  have hl := hzl_len n o (2 ^ n)
  have hl2 := unsl_32 n hn
  refine ⟨i1 hg, by unfold fixd; omega, i3, hzl_nil n _ fun p hp => ?_⟩
  obtain ⟨e1, e2, -⟩ := rept_edge hn hp
  cases hh : hz o p.1 p.2 with
  | false => exact hz_mono (i3 _ e1) (i3 _ e2) (i4 _ _) hh
  | true =>
    obtain ⟨x, h1, j, h2, h3, h4⟩ := hp
    refine rep_fix hn _ o he p ((hzl_mem n o p _).2 ⟨x, h1, j, h2, h3, ?_, h4⟩)
    rw [h4] at hh
    exact hh
theorem rd_rows (l : List (Nat × Nat)) (i : Nat) (h : i < l.length) : rd [] (rows l) (i : Int) = [(l[i].1 : Int), (l[i].2 : Int)] := by
  have h' : i < (rows l).length := by rw [rows_len]; exact h
  rw [rd_nat [] (rows l) i h']
  exact List.getElem_map ..
theorem full_n (n : Nat) (hn : n ≤ 4) : w64 (((2 ^ n : Nat) : Int) - 1) = ((2 ^ n - 1 : Nat) : Int) := by
  have h0 : 1 ≤ 2 ^ n := Nat.one_le_two_pow
  have hs : 2 ^ n ≤ 16 := (Nat.pow_le_pow_right (by decide) hn : 2 ^ n ≤ 2 ^ 4)
  rw [w64_id (by omega) (by omega)]
  omega
theorem clone_term (N : Nat) (o : List (Int × Int)) (ho : o.length ≤ 1000) (K : List (Int × Int) → Option β) : slices_Clone_Simpl_Term_impl_Term N o K = K o := by
  unfold slices_Clone_Simpl_Term_impl_Term
  exact gd_true (decide_eq_true (by omega))
theorem impl_RepairSum_n (N : Nat) (hN : 1048576 < N) (n : Nat) (hn : n ≤ 4) (o : List (Nat × Nat)) (ho : o.length ≤ 8) (hg : Ts n o) (K : List (Int × Int) → Bool → Option β) : zj75 N (n : Int) (tl o) K = K (tl (fixd n o)) true := by
  have hs : 2 ^ n ≤ 16 := (Nat.pow_le_pow_right (by decide) hn : 2 ^ n ≤ 2 ^ 4)
  unfold zj75
  rw [impl_valid N hN n (by omega) o (by omega) hg, decide_eq_true (by omega), Bool.not_true, cond_false, clone_term N _ (by rw [tl_len]; omega), impl_hazards_n N hN n hn o (by omega) hg]
  unfold fixd
  have he : ∀ p ∈ hzl n o (2 ^ n), Edge n p := fun p hp => (hzl_edge n o p hp).1
  have hl := hzl_len n o (2 ^ n)
  have hl2 := unsl_32 n hn
  generalize hzl n o (2 ^ n) = ps at he hl
  rw [rows_len]
  have key : ∀ (d i F : Nat) (acc : List (Nat × Nat)), ps.length - i = d → i ≤ ps.length → d < F → Ts n acc → acc.length ≤ 8 + i → zj74 N F (n : Int) (ps.length : Int) (i : Int) (tl acc) (rows ps) (fun e => K e true) = K (tl (rep n (ps.drop i) acc)) true := by
    intro d
    induction d with
    | zero =>
      intro i F acc hd hi hF ha hal
      obtain ⟨G, rfl⟩ : ∃ G, F = G + 1 := ⟨F - 1, by omega⟩
      simp only [zj74, zj73]
      rw [decide_eq_false (by omega), cond_false, List.drop_of_length_le (by omega)]
      rfl
    | succ d ih =>
      intro i F acc hd hi hF ha hal
      obtain ⟨G, rfl⟩ : ∃ G, F = G + 1 := ⟨F - 1, by omega⟩
      have hlt : i < ps.length := by omega
      have hp := he _ (List.getElem_mem hlt)
      obtain ⟨r1, r2, r3, -⟩ := rept_edge hn hp
      obtain ⟨x, hx, j, hj, hb, hpe⟩ := hp
      obtain ⟨e1, e2, e3, e4, e5, e6, e7, e8, -⟩ := edge_all n hn x hx j hj hb
      have q1 : ps[i].1 = x := by rw [hpe]
      have q2 : ps[i].2 = x ||| 2 ^ j := by rw [hpe]
      have qr : rept n ps[i] = (2 ^ n - 1 - 2 ^ j, x) := by unfold rept; rw [q1, q2, e3]
      rw [List.drop_eq_getElem_cons hlt, rep]
      simp only [zj74, zj73, rd_rows ps i hlt, rows_len, List.length_cons, List.length_nil, tl_len]
      rw [shl_one n (by omega), full_n n hn]
      simp only [decide_eq_true (by omega : (i : Int) < (ps.length : Int)), cond_true, gd_true (decide_eq_true (by omega : (0 : Int) ≤ (i : Int))), gd_true (rfl : true = true), gd_true (show decide ((0 : Int) < ((0 + 1 + 1 : Nat) : Int)) = true from rfl), gd_true (show decide ((1 : Int) < ((0 + 1 + 1 : Nat) : Int)) = true from rfl), gd_true (decide_eq_true (by omega : (0 : Int) ≤ (n : Int)))]
      rw [show rd 0 [(ps[i].1 : Int), (ps[i].2 : Int)] 0 = (ps[i].1 : Int) from rfl, show rd 0 [(ps[i].1 : Int), (ps[i].2 : Int)] 1 = (ps[i].2 : Int) from rfl, impl_isHazard_n N hN n acc (by omega) ha _ _ (by omega) (by omega), w64_succ i (by omega)]
      cases hh : hz acc ps[i].1 ps[i].2 with
      | false => rw [cond_false, cond_false]; exact ih (i + 1) G acc (by omega) (by omega) (by omega) ha (by omega)
      | true =>
        rw [cond_true, cond_true, gd_true (decide_eq_true (by simp; omega)), q1, q2, e8, List.nil_append, qr, ← ih (i + 1) G _ (by omega) (by omega) (by omega) (fun t ht => by
          rcases List.mem_append.1 ht with h | h
          · exact ha t h
          · rw [List.mem_singleton.1 h, ← qr]; exact r3) (by simp; omega), tl_snoc]
  refine (key ps.length 0 N o (by omega) (by omega) (by omega) hg (by omega)).trans ?_
  rw [List.drop_zero]
theorem spec_RepairSum_n (N : Nat) (hN : 1048576 < N) (n : Nat) (hn : n ≤ 4) (o : List (Nat × Nat)) (ho : o.length ≤ 8) (hg : Ts n o) (K : List (Int × Int) → Bool → Option β) : zj90 N (n : Int) (tl o) K = K (tl (fixd n o)) true := by
  have hs : 2 ^ n ≤ 16 := (Nat.pow_le_pow_right (by decide) hn : 2 ^ n ≤ 2 ^ 4)
  unfold zj90
  rw [spec_HazardsOf_n N hN n hn o (by omega) hg, Bool.not_true, cond_false, gd_true (decide_eq_true (by rw [tl_len]; simp; omega)), List.nil_append]
  unfold fixd
  have he : ∀ p ∈ hzl n o (2 ^ n), Edge n p := fun p hp => (hzl_edge n o p hp).1
  have hl := hzl_len n o (2 ^ n)
  have hl2 := unsl_32 n hn
  generalize hzl n o (2 ^ n) = ps at he hl
  have key : ∀ (d i F : Nat) (acc : List (Nat × Nat)), ps.length - i = d → i ≤ ps.length → d < F → Ts n acc → acc.length ≤ 8 + i → zj89 N F (n : Int) (i : Int) (rows ps) (tl acc) (fun e => K e true) = K (tl (rep n (ps.drop i) acc)) true := by
    intro d
    induction d with
    | zero =>
      intro i F acc hd hi hF ha hal
      obtain ⟨G, rfl⟩ : ∃ G, F = G + 1 := ⟨F - 1, by omega⟩
      simp only [zj89, zj88, rows_len]
      rw [decide_eq_false (by omega), cond_false, List.drop_of_length_le (by omega)]
      rfl
    | succ d ih =>
      intro i F acc hd hi hF ha hal
      obtain ⟨G, rfl⟩ : ∃ G, F = G + 1 := ⟨F - 1, by omega⟩
      have hlt : i < ps.length := by omega
      have hp := he _ (List.getElem_mem hlt)
      obtain ⟨r1, r2, r3, -⟩ := rept_edge hn hp
      obtain ⟨x, hx, j, hj, hb, hpe⟩ := hp
      obtain ⟨e1, e2, e3, e4, e5, e6, e7, -⟩ := edge_all n hn x hx j hj hb
      have q1 : ps[i].1 = x := by rw [hpe]
      have q2 : ps[i].2 = x ||| 2 ^ j := by rw [hpe]
      have qr : rept n ps[i] = (2 ^ n - 1 - 2 ^ j, x) := by unfold rept; rw [q1, q2, e3]
      rw [List.drop_eq_getElem_cons hlt, rep]
      simp only [zj89, zj88, rd_rows ps i hlt, rows_len, List.length_cons, List.length_nil, tl_len]
      rw [shl_one n (by omega), full_n n hn]
      simp only [decide_eq_true (by omega : (i : Int) < (ps.length : Int)), cond_true, gd_true (decide_eq_true (by omega : (0 : Int) ≤ (i : Int))), gd_true (rfl : true = true), gd_true (show decide ((0 : Int) < ((0 + 1 + 1 : Nat) : Int)) = true from rfl), gd_true (show decide ((1 : Int) < ((0 + 1 + 1 : Nat) : Int)) = true from rfl), gd_true (decide_eq_true (by omega : (0 : Int) ≤ (n : Int)))]
      rw [show rd 0 [(ps[i].1 : Int), (ps[i].2 : Int)] 0 = (ps[i].1 : Int) from rfl, show rd 0 [(ps[i].1 : Int), (ps[i].2 : Int)] 1 = (ps[i].2 : Int) from rfl, spec_l28Hazard_n N hN n acc (by omega) ha _ _ (by omega) (by omega), w64_succ i (by omega)]
      cases hh : hz acc ps[i].1 ps[i].2 with
      | false => rw [cond_false, cond_false]; exact ih (i + 1) G acc (by omega) (by omega) (by omega) ha (by omega)
      | true =>
        have hj2 : 2 ^ j ≤ 2 ^ n - 1 := by
          have := (edge_all n hn x hx j hj hb).1
          have h3 : 2 ^ j ≤ x ||| 2 ^ j := Nat.right_le_or
          omega
        have a1 : w64 (((x ||| 2 ^ j : Nat) : Int) - (x : Int)) = ((2 ^ j : Nat) : Int) := by
          rw [show ((x ||| 2 ^ j : Nat) : Int) - (x : Int) = (((x ||| 2 ^ j) - x : Nat) : Int) from (Int.ofNat_sub (by omega)).symm, e3]
          generalize 2 ^ j = p at hj2
          exact w64_id (by omega) (by omega)
        have a2 : w64 (((2 ^ n - 1 : Nat) : Int) - ((2 ^ j : Nat) : Int)) = ((2 ^ n - 1 - 2 ^ j : Nat) : Int) := by
          rw [show ((2 ^ n - 1 : Nat) : Int) - ((2 ^ j : Nat) : Int) = ((2 ^ n - 1 - 2 ^ j : Nat) : Int) from (Int.ofNat_sub hj2).symm]
          exact w64_id (by omega) (by omega)
        rw [cond_true, cond_true, gd_true (decide_eq_true (by simp; omega)), q1, q2, a1, a2, bAnd _ _ (by omega) (by omega), e6, List.nil_append, qr, ← ih (i + 1) G _ (by omega) (by omega) (by omega) (fun t ht => by
          rcases List.mem_append.1 ht with h | h
          · exact ha t h
          · rw [List.mem_singleton.1 h, ← qr]; exact r3) (by simp; omega), tl_snoc]
  refine (key ps.length 0 N o (by omega) (by omega) (by omega) hg (by omega)).trans ?_
  rw [List.drop_zero]
end Go.Proofs.YtddflpokemgnmaaGreatDoor
namespace Go.Proofs.YtddflpokemgnmaaGreatDoor
open Go.Rv
variable {β : Type}
def anyTo (p : Nat → Bool) : Nat → Bool
  | 0 => false
  | m + 1 => anyTo p m || p m
theorem anyTo_iff {p : Nat → Bool} : ∀ {m : Nat}, anyTo p m = true ↔ ∃ i, i < m ∧ p i = true
  | 0 => ⟨(fun h => by cases h), (fun ⟨j, h, _⟩ => by omega)⟩
  | m + 1 => by
    rw [anyTo, Bool.or_eq_true, anyTo_iff (m := m)]
    constructor
    · rintro (⟨i, h1, h2⟩ | h)
      · exact ⟨i, by omega, h2⟩
      · exact ⟨m, by omega, h⟩
    · rintro ⟨i, h1, h2⟩
      rcases Nat.lt_or_ge i m with h | h
      · exact Or.inl ⟨i, h, h2⟩
      · have : i = m := by omega
        subst this
        exact Or.inr h2
def imp (n w m v : Nat) : Bool := !anyTo (fun x => (x &&& m == v) && !w.testBit x) (2 ^ n) && anyTo (fun x => (x &&& m == v) && w.testBit x) (2 ^ n)
theorem isImplicant_n (N : Nat) (hN : 1048576 < N) (n w m v : Nat) (hn : n ≤ 4) (hw : w < 2 ^ 63) (hm : m < 32) (K : Bool → Option β) : zj114 N (n : Int) (w : Int) (m : Int) (v : Int) K = K (imp n w m v) := by
  have hs : 2 ^ n ≤ 16 := (Nat.pow_le_pow_right (by decide) hn : 2 ^ n ≤ 2 ^ 4)
  have hz0 : (0 : Int) ≤ ((2 ^ n : Nat) : Int) := Int.natCast_nonneg _
  unfold zj114 zj113 zj108
  rw [gd_true (decide_eq_true (by omega)), shl_one n (by omega)]
  refine loop_st (fun F x => zj112 N F (m : Int) (v : Int) ((2 ^ n : Nat) : Int) (x : Int) (n : Int) (w : Int) (anyTo (fun x => (x &&& m == v) && !w.testBit x) x) (anyTo (fun x => (x &&& m == v) && w.testBit x) x) fun e7_0 e7_1 => cond e7_0 (cond e7_1 (K ((2 : Int) == 1)) (cond e7_1 (K ((1 : Int) == 1)) (K ((0 : Int) == 1)))) (cond e7_1 (K ((1 : Int) == 1)) (K ((0 : Int) == 1)))) (2 ^ n) _ (fun F x hx => ?_) (fun F => ?_) N 0 (by omega) (by omega)
  · simp only [zj112, zj111, zj110]
    rw [decide_eq_true (by omega : (x : Int) < ((2 ^ n : Nat) : Int)), cond_true, and_smT x (by omega) m hm, natb, gd_true (decide_eq_true (by omega)), bit_at w x (by omega), w64_succ x (by omega)]
    simp only [anyTo]
    cases hc : (x &&& m == v) with
    | false => simp only [cond_false, Bool.false_and, Bool.or_false]
    | true =>
      cases hb : w.testBit x with
      | true => simp only [cond_true, if_true, Bool.true_and, Bool.not_true, Bool.or_false, Bool.or_true]; rfl
      | false => simp only [cond_true, Bool.false_eq_true, if_false, Bool.true_and, Bool.not_false, Bool.or_false, Bool.or_true]; rfl
  · simp only [zj112, zj111]
    rw [decide_eq_false (by omega : ¬ ((2 ^ n : Nat) : Int) < ((2 ^ n : Nat) : Int)), cond_false]
    unfold imp
    cases anyTo (fun x => (x &&& m == v) && !w.testBit x) (2 ^ n) <;> cases anyTo (fun x => (x &&& m == v) && w.testBit x) (2 ^ n) <;> rfl
def off (m i : Nat) : Nat := m ^^^ (m &&& 2 ^ i)
theorem off_in : ∀ m : Nat, m < 32 → ∀ i : Nat, i < 5 → bits .andNot .i64 (m : Int) (shlI .i64 1 (i : Int)) = (off m i : Int) ∧ off m i < 32 ∧ (bits .and .i64 (m : Int) (shlI .i64 1 (i : Int)) != 0) = m.testBit i := by decide +kernel
theorem off_lt : ∀ m : Nat, m < 32 → ∀ i : Nat, i < 5 → m.testBit i = true → off m i < m := by decide +kernel
theorem off_and : ∀ i : Nat, i < 5 → ∀ m : Nat, m < 32 → ∀ x : Nat, x < 32 → x &&& off m i = off (x &&& m) i := by decide +kernel
theorem off_ok : ∀ i : Nat, i < 5 → ∀ m : Nat, m < 32 → ∀ v : Nat, v < 32 → (!(v &&& m == v) || (off v i &&& off m i == off v i)) = true := by decide +kernel
def prm (n w m v : Nat) : Bool := imp n w m v && !anyTo (fun i => m.testBit i && imp n w (off m i) (off v i)) n
theorem isPrime_n (N : Nat) (hN : 1048576 < N) (n w m v : Nat) (hn : n ≤ 4) (hw : w < 2 ^ 63) (hm : m < 32) (hv : v < 32) (K : Bool → Option β) : zj117 N (n : Int) (w : Int) (m : Int) (v : Int) K = K (prm n w m v) := by
  unfold zj117 prm
  rw [isImplicant_n N hN n w m v hn hw hm]
  cases imp n w m v with
  | false => rfl
  | true =>
    rw [Bool.not_true, cond_false, Bool.true_and]
    have key : ∀ (d i F : Nat), n - i = d → i ≤ n → d < F → anyTo (fun i => m.testBit i && imp n w (off m i) (off v i)) i = false → zj116 N F (n : Int) (i : Int) (n : Int) (w : Int) (m : Int) (v : Int) (fun e => K e) (K true) = K (!anyTo (fun i => m.testBit i && imp n w (off m i) (off v i)) n) := by
      intro d
      induction d with
      | zero =>
        intro i F hd hi hF ha
        obtain ⟨G, rfl⟩ : ∃ G, F = G + 1 := ⟨F - 1, by omega⟩
        simp only [zj116, zj115]
        rw [decide_eq_false (by omega), cond_false]
        have e : i = n := by omega
        subst e
        rw [ha]
        rfl
      | succ d ih =>
        intro i F hd hi hF ha
        obtain ⟨G, rfl⟩ : ∃ G, F = G + 1 := ⟨F - 1, by omega⟩
        obtain ⟨c1, c2, c3⟩ := off_in m hm i (by omega)
        obtain ⟨c4, c5, -⟩ := off_in v hv i (by omega)
        simp only [zj116, zj115]
        rw [decide_eq_true (by omega : (i : Int) < (n : Int)), cond_true, gd_true (decide_eq_true (by omega)), c3, c1, c4, isImplicant_n N hN n w _ _ hn hw c2, w64_succ i (by omega)]
        have next := ih (i + 1) G (by omega) (by omega) (by omega)
        cases hb : m.testBit i with
        | false => exact next (by rw [anyTo, ha, hb]; rfl)
        | true =>
          cases hp : imp n w (off m i) (off v i) with
          | false => exact next (by rw [anyTo, ha, hb, hp]; rfl)
          | true =>
            have : anyTo (fun i => m.testBit i && imp n w (off m i) (off v i)) n = true := anyTo_iff.2 ⟨i, by omega, by rw [hb, hp]; rfl⟩
            rw [this]
            rfl
    exact key n 0 N (by omega) (by omega) (by omega) rfl
def prr (n w m : Nat) : Nat → List (Nat × Nat)
  | 0 => []
  | v + 1 => prr n w m v ++ cond ((v &&& m == v) && prm n w m v) [(m, v)] []
def prl (n w : Nat) : Nat → List (Nat × Nat)
  | 0 => []
  | m + 1 => prl n w m ++ prr n w m (m + 1)
theorem prr_len (n w m : Nat) : ∀ v, (prr n w m v).length ≤ v
  | 0 => Nat.le_refl _
  | v + 1 => by
    have := prr_len n w m v
    rw [prr, List.length_append]
    cases ((v &&& m == v) && prm n w m v) <;> simp <;> omega
theorem prl_len (n w : Nat) : ∀ m, m ≤ 16 → (prl n w m).length ≤ 17 * m
  | 0, _ => Nat.le_refl _
  | m + 1, h => by
    have h1 := prl_len n w m (by omega)
    have h2 := prr_len n w m (m + 1)
    rw [prl, List.length_append]
    omega
theorem prr_mem (n w m : Nat) (t : Nat × Nat) : ∀ k, t ∈ prr n w m k ↔ ∃ v, v < k ∧ (v &&& m == v) = true ∧ prm n w m v = true ∧ t = (m, v)
  | 0 => ⟨(fun h => by cases h), (fun ⟨j, h, _⟩ => by omega)⟩
  | k + 1 => by
    rw [prr, List.mem_append, prr_mem n w m t k]
    constructor
    · rintro (⟨v, h1, h2⟩ | h)
      · exact ⟨v, by omega, h2⟩
      · cases hc : ((k &&& m == k) && prm n w m k) with
        | false => rw [hc] at h; cases h
        | true =>
          rw [hc] at h
          rw [Bool.and_eq_true] at hc
          exact ⟨k, by omega, hc.1, hc.2, List.mem_singleton.1 h⟩
    · rintro ⟨v, h1, h2, h3, h4⟩
      rcases Nat.lt_or_ge v k with h | h
      · exact Or.inl ⟨v, h, h2, h3, h4⟩
      · have : v = k := by omega
        subst this
        refine Or.inr ?_
        rw [h2, h3]
        exact List.mem_singleton.2 h4
theorem prl_mem (n w : Nat) (t : Nat × Nat) : ∀ k, t ∈ prl n w k ↔ ∃ m, m < k ∧ ∃ v, v < m + 1 ∧ (v &&& m == v) = true ∧ prm n w m v = true ∧ t = (m, v)
  | 0 => ⟨(fun h => by cases h), (fun ⟨j, h, _⟩ => by omega)⟩
  | k + 1 => by
    rw [prl, List.mem_append, prl_mem n w t k, prr_mem]
    constructor
    · rintro (⟨v, h1, h2⟩ | h)
      · exact ⟨v, by omega, h2⟩
      · exact ⟨k, by omega, h⟩
    · rintro ⟨v, h1, h2⟩
      rcases Nat.lt_or_ge v k with h | h
      · exact Or.inl ⟨v, h, h2⟩
      · have : v = k := by omega
        subst this
        exact Or.inr h2
theorem PrimesOf_n (N : Nat) (hN : 1048576 < N) (n w : Nat) (hn : n ≤ 4) (hw : w < 2 ^ 2 ^ n) (K : List (Int × Int) → Bool → Option β) : zj123 N (n : Int) (w : Int) K = K (tl (prl n w (2 ^ n))) true := by
  have hs : 2 ^ n ≤ 16 := (Nat.pow_le_pow_right (by decide) hn : 2 ^ n ≤ 2 ^ 4)
  have hz0 : (0 : Int) ≤ ((2 ^ n : Nat) : Int) := Int.natCast_nonneg _
  have h16 := sz_16 n hn
  unfold zj123 zj122 zj108
  rw [impl_IsTable_eq N _ _ (by omega), isT_of (by omega) hw, Bool.not_true, cond_false, gd_true (decide_eq_true (by omega)), shl_one n (by omega)]
  refine loop_st (fun F m => zj121 N F ((2 ^ n : Nat) : Int) (m : Int) (n : Int) (w : Int) (tl (prl n w m)) fun e => K e true) (2 ^ n) _ (fun F m hm => ?_) (fun F => ?_) N 0 (by omega) (by omega)
  · simp only [zj121, zj120]
    rw [decide_eq_true (by omega : (m : Int) < ((2 ^ n : Nat) : Int)), cond_true, w64_succ m (by omega)]
    have hl1 := prl_len n w m (by omega)
    refine (loop_st (fun H v => zj119 N H (m : Int) ((2 ^ n : Nat) : Int) (m : Int) ((m + 1 : Nat) : Int) (v : Int) (n : Int) (w : Int) (tl (prl n w m ++ prr n w m v)) fun e0 e1 e2 e3 e4 => zj121 N F e0 (w64 (e1 + 1)) e2 e3 e4 fun e => K e true) (m + 1) (zj121 N F ((2 ^ n : Nat) : Int) ((m + 1 : Nat) : Int) (n : Int) (w : Int) (tl (prl n w (m + 1))) fun e => K e true) (fun H v hv => ?_) (fun H => ?_) N 0 (by omega) (by omega) |> fun h => Eq.trans (by rw [show prr n w m 0 = [] from rfl, List.append_nil]; rfl) h)
    · have hl2 := prr_len n w m v
      simp only [zj119, zj118]
      rw [decide_eq_true (by omega : (v : Int) < ((m + 1 : Nat) : Int)), cond_true, andNot_sm v (by omega) m (by omega), isPrime_n N hN n w m v hn (by omega) (by omega) (by omega), w64_succ v (by omega)]
      cases hc : (v &&& m == v) with
      | false => rw [cond_false, prr, hc, Bool.false_and, cond_false, List.append_nil]
      | true =>
        cases hp : prm n w m v with
        | false => rw [cond_true, cond_false, prr, hc, hp, Bool.and_false, cond_false, List.append_nil]
        | true =>
          rw [cond_true, cond_true, gd_true (decide_eq_true (by rw [tl_len, List.length_append]; simp; omega)), prr, hc, hp, Bool.and_self, cond_true, List.nil_append, show tl (prl n w m ++ prr n w m v) ++ [((m : Int), (v : Int))] = tl ((prl n w m ++ prr n w m v) ++ [(m, v)]) from (tl_snoc _ (m, v)).symm, List.append_assoc]
    · simp only [zj119, zj118]
      rw [decide_eq_false (by omega), cond_false, w64_succ m (by omega)]
      rfl
  · simp only [zj121, zj120]
    rw [decide_eq_false (by omega : ¬ ((2 ^ n : Nat) : Int) < ((2 ^ n : Nat) : Int)), cond_false]
theorem prl_good (n w : Nat) (hn : n ≤ 4) : Ts n (prl n w (2 ^ n)) := by
  have hs : 2 ^ n ≤ 16 := (Nat.pow_le_pow_right (by decide) hn : 2 ^ n ≤ 2 ^ 4)
  intro t ht
  obtain ⟨m, h1, v, h2, h3, h4, rfl⟩ := (prl_mem n w t _).1 ht
  refine ⟨?_, by dsimp only; omega, by dsimp only; omega⟩
  unfold okT
  dsimp only
  rw [decide_eq_true h1, h3]
  rfl
theorem extend (n w : Nat) (hn : n ≤ 4) : ∀ (k m v : Nat), m < k → m < 2 ^ n → (v &&& m == v) = true → imp n w m v = true → ∃ m' v', m' < 2 ^ n ∧ (v' &&& m' == v') = true ∧ prm n w m' v' = true ∧ ∀ x, x < 32 → x &&& m = v → x &&& m' = v' := by
  have hs : 2 ^ n ≤ 16 := (Nat.pow_le_pow_right (by decide) hn : 2 ^ n ≤ 2 ^ 4)
  intro k
  induction k with
  | zero => intro m v h; omega
  | succ k ih =>
    intro m v hk hm hv hi
    cases ha : anyTo (fun i => m.testBit i && imp n w (off m i) (off v i)) n with
    | false => exact ⟨m, v, hm, hv, by unfold prm; rw [hi, ha]; rfl, fun x _ h => h⟩
    | true =>
      obtain ⟨i, h1, h2⟩ := anyTo_iff.1 ha
      rw [Bool.and_eq_true] at h2
      have h3 := off_lt m (by omega) i (by omega) h2.1
      have hvm : v ≤ m := by rw [← eq_of_beq hv]; exact Nat.and_le_right
      have h4 := off_ok i (by omega) m (by omega) v (by omega)
      rw [hv, Bool.not_true, Bool.false_or] at h4
      obtain ⟨m', v', g1, g2, g3, g4⟩ := ih (off m i) (off v i) (by omega) (by omega) h4 h2.2
      exact ⟨m', v', g1, g2, g3, fun x hx h => g4 x hx (by rw [off_and i (by omega) m (by omega) x hx, h])⟩
theorem primes_free (n w : Nat) (hn : n ≤ 4) : hzl n (prl n w (2 ^ n)) (2 ^ n) = [] := by
  have hs : 2 ^ n ≤ 16 := (Nat.pow_le_pow_right (by decide) hn : 2 ^ n ≤ 2 ^ 4)
  refine hzl_nil n _ fun p hp => ?_
  have cov : ∀ x, x < 2 ^ n → hold (prl n w (2 ^ n)) x = true → w.testBit x = true := by
    intro x hx h
    unfold hold at h
    obtain ⟨t, ht, hc⟩ := List.any_eq_true.1 h
    obtain ⟨m, h1, v, h2, h3, h4, rfl⟩ := (prl_mem n w t _).1 ht
    unfold prm imp at h4
    rw [Bool.and_eq_true, Bool.and_eq_true, Bool.not_eq_true'] at h4
    have h5 := h4.1.1
    cases hb : w.testBit x with
    | true => rfl
    | false =>
      have : anyTo (fun x => (x &&& m == v) && !w.testBit x) (2 ^ n) = true := anyTo_iff.2 ⟨x, hx, by dsimp only at hc ⊢; rw [hc, hb]; rfl⟩
      rw [this] at h5
      cases h5
  obtain ⟨e1, e2, ⟨e3, e4, e5⟩, e6, e7, e8⟩ := rept_edge hn hp
  unfold hz
  cases h1 : hold (prl n w (2 ^ n)) p.1 with
  | false => rw [Bool.false_and, Bool.and_false]
  | true =>
    cases h2 : hold (prl n w (2 ^ n)) p.2 with
    | false => rw [Bool.and_false, Bool.and_false]
    | true =>
      have t1 := cov _ e1 h1
      have t2 := cov _ e2 h2
      have hi : imp n w (rept n p).1 (rept n p).2 = true := by
        unfold imp
        rw [Bool.and_eq_true, Bool.not_eq_true', anyTo_iff]
        refine ⟨?_, p.1, e1, by rw [e6, t1, beq_self_eq_true]; rfl⟩
        cases ha : anyTo (fun x => (x &&& (rept n p).1 == (rept n p).2) && !w.testBit x) (2 ^ n) with
        | false => rfl
        | true =>
          obtain ⟨z, z1, z2⟩ := anyTo_iff.1 ha
          rw [Bool.and_eq_true, Bool.not_eq_true'] at z2
          rcases e8 z z1 z2.1 with rfl | rfl
          · rw [t1] at z2; cases z2.2
          · rw [t2] at z2; cases z2.2
      unfold okT at e3
      rw [Bool.and_eq_true, decide_eq_true_eq] at e3
      obtain ⟨m', v', g1, g2, g3, g4⟩ := extend n w hn _ _ _ (Nat.lt_succ_self _) e3.1 e3.2 hi
      have hb : both (prl n w (2 ^ n)) p.1 p.2 = true := by
        unfold both
        refine List.any_eq_true.2 ⟨(m', v'), (prl_mem n w _ _).2 ⟨m', g1, v', ?_, g2, g3, rfl⟩, ?_⟩
        · have : v' ≤ m' := by rw [← eq_of_beq g2]; exact Nat.and_le_right
          omega
        · dsimp only
          rw [g4 _ (by omega) e6, g4 _ (by omega) e7, beq_self_eq_true]
          rfl
      rw [hb]
      rfl
theorem impl_IsHazardFree_n (N : Nat) (hN : 1048576 < N) (n : Nat) (hn : n ≤ 4) (o : List (Nat × Nat)) (ho : o.length ≤ 40) (hg : Ts n o) (K : Bool → Option β) : zj101 N (n : Int) (tl o) K = K (((rows (hzl n o (2 ^ n))).length : Int) == 0) := by
  unfold zj101
  rw [impl_valid N hN n (by omega) o (by omega) hg, decide_eq_true (by omega), cond_true, impl_hazards_n N hN n hn o (by omega) hg]
end Go.Proofs.YtddflpokemgnmaaGreatDoor
namespace Go.Proofs.YtddflpokemgnmaaGreatDoor
open Go.Rv
variable {β : Type}
theorem ftb_all : ∀ n : Nat, n ≤ 4 → ∀ m : Nat, m < 2 ^ n → ∀ v : Nat, v < 2 ^ n → (!(v &&& m == v) || (decide (0 < (ftb n m v).length) && decide ((ftb n m v).length ≤ 10) && !(ftb n m v).contains 124 && !(ftb n m v).contains 48 && (ptm n (ftb n m v) == some (m, v)))) = true := by decide +kernel
theorem ftb_good {n : Nat} (hn : n ≤ 4) {t : Nat × Nat} (h : Good n t) : 0 < (ftb n t.1 t.2).length ∧ (ftb n t.1 t.2).length ≤ 10 ∧ (124 : UInt8) ∉ ftb n t.1 t.2 ∧ (48 : UInt8) ∉ ftb n t.1 t.2 ∧ ptm n (ftb n t.1 t.2) = some t := by
  obtain ⟨h1, -, -⟩ := h
  unfold okT at h1
  rw [Bool.and_eq_true, decide_eq_true_eq] at h1
  have hle : t.2 ≤ t.1 := by rw [← eq_of_beq h1.2]; exact Nat.and_le_right
  have h2 := ftb_all n hn t.1 h1.1 t.2 (by omega)
  rw [h1.2, Bool.not_true, Bool.false_or] at h2
  simp only [Bool.and_eq_true, decide_eq_true_eq, Bool.not_eq_true'] at h2
  obtain ⟨⟨⟨⟨a1, a2⟩, a3⟩, a4⟩, a5⟩ := h2
  refine ⟨a1, a2, fun h => ?_, fun h => ?_, eq_of_beq a5⟩
  · rw [List.contains_iff_mem.2 h] at a3; cases a3
  · rw [List.contains_iff_mem.2 h] at a4; cases a4
def fsum (n : Nat) (o : List (Nat × Nat)) : List UInt8 := cond (o.length == 0) [48] (Lib.join (wordsT n o) [124])
theorem words_le {n : Nat} (hn : n ≤ 4) {o : List (Nat × Nat)} (hg : Ts n o) : ∀ x ∈ wordsT n o, 0 < x.length ∧ x.length ≤ 10 ∧ (124 : UInt8) ∉ x ∧ (48 : UInt8) ∉ x := by
  intro x hx
  obtain ⟨t, ht, rfl⟩ := List.mem_map.1 hx
  obtain ⟨a1, a2, a3, a4, -⟩ := ftb_good hn (hg t ht)
  exact ⟨a1, a2, a3, a4⟩
theorem joinT_len {n : Nat} (hn : n ≤ 4) {o : List (Nat × Nat)} (hg : Ts n o) : (Lib.join (wordsT n o) [124]).length ≤ 11 * o.length := by
  have h := join_len_le 124 10 (wordsT n o) fun x hx => (words_le hn hg x hx).2.1
  rw [wordsT_len] at h
  exact h
theorem fsum_len {n : Nat} (hn : n ≤ 4) {o : List (Nat × Nat)} (hg : Ts n o) (ho : o.length ≤ 8) : (fsum n o).length ≤ 100 := by
  have := joinT_len hn hg
  unfold fsum
  cases (o.length == 0) <;> simp <;> omega
theorem impl_FormatSum_n (N : Nat) (hN : 1048576 < N) (n : Nat) (hn : n ≤ 4) (o : List (Nat × Nat)) (ho : o.length ≤ 8) (hg : Ts n o) (K : ByteArray → Option β) : zj132 N (n : Int) (tl o) K = K (B (fsum n o)) := by
  unfold zj132 zj131 fsum
  rw [impl_valid N hN n (by omega) o (by omega) hg, decide_eq_true (by omega), Bool.not_true, cond_false, tl_len, show ((o.length : Int) == 0) = (o.length == 0) from natb o.length 0]
  cases hc : (o.length == 0) with
  | true => rw [cond_true, cond_true, B_strOf]; rfl
  | false =>
    rw [cond_false, cond_false, show strOf [124] = B [124] from B_strOf _, impl_joinTerms_n N hN n (by omega) o (by omega) (fun t ht => ⟨(hg t ht).2.1, (hg t ht).2.2, (ftb_good hn (hg t ht)).2.1⟩) 124]
theorem join_pos {n : Nat} (hn : n ≤ 4) : ∀ {o : List (Nat × Nat)}, Ts n o → (Lib.join (wordsT n o) [124] = [] ↔ o = []) := by
  intro o
  cases o with
  | nil => exact fun _ => ⟨fun _ => rfl, fun _ => rfl⟩
  | cons t o =>
    intro hg
    have h := (ftb_good hn (hg t List.mem_cons_self)).1
    constructor
    · intro e
      unfold wordsT at e
      rw [List.map_cons, Lib.join_cons] at e
      rw [List.append_eq_nil_iff] at e
      rw [e.1] at h
      cases h
    · intro e; cases e
theorem spec_FormatSum_n (N : Nat) (hN : 1048576 < N) (n : Nat) (hn : n ≤ 4) (o : List (Nat × Nat)) (ho : o.length ≤ 8) (hg : Ts n o) (K : ByteArray → Option β) : zj146 N (n : Int) (tl o) K = K (B (fsum n o)) := by
  unfold zj146
  have hv := fun K => spec_valid (β := β) N hN n (by omega) o (by omega) hg K
  rw [decide_eq_true (by omega : (o.length : Int) ≤ 40)] at hv
  refine loop_st (fun F i => zj145 N F (n : Int) (tl o) (B (Lib.join (wordsT n (o.take i)) [124])) (i : Int) fun e0 e1 e2 => cond (e2.toList == ByteArray.empty.toList) (zj79 N e0 e1 fun r7 => cond r7 (K (strOf [48])) (K e2)) (K e2)) o.length _ (fun F i hi => ?_) (fun F => ?_) N 0 (by omega) (by omega)
  · obtain ⟨g1, g2, g3⟩ := hg o[i] (List.getElem_mem hi)
    have hT : Ts n (o.take i) := fun t ht => hg t (List.mem_of_mem_take ht)
    have hl := joinT_len hn hT
    rw [List.length_take] at hl
    obtain ⟨a1, a2, -⟩ := ftb_good hn (hg o[i] (List.getElem_mem hi))
    have e : Lib.join (wordsT n (o.take (i + 1))) [124] = if wordsT n (o.take i) = [] then ftb n o[i].1 o[i].2 else Lib.join (wordsT n (o.take i)) [124] ++ [124] ++ ftb n o[i].1 o[i].2 := by
      rw [← join_snoc]
      congr 1
      unfold wordsT
      rw [List.take_add_one, List.getElem?_eq_getElem hi, List.map_append]
      rfl
    have hwl : (wordsT n (o.take i)).length = i := by rw [wordsT_len, List.length_take]; omega
    simp only [zj145, zj144, tl_len, rd_tl o i hi]
    rw [decide_eq_true (by omega : (i : Int) < (o.length : Int)), cond_true, hv, cond_true, w64_succ i (by omega), e]
    by_cases h0 : i = 0
    · subst h0
      rw [if_pos (by exact List.length_eq_zero_iff.1 hwl), decide_eq_false (by omega : ¬ ((0 : Nat) : Int) > 0), cond_false, gd_true (decide_eq_true (by omega)), gd_true rfl, spec_FormatTerm_n N hN n _ _ (by omega) g2 g3, List.take_zero, show Lib.join (wordsT n []) [124] = [] from rfl, gd_true (decide_eq_true (by rw [B_size, B_size, List.length_nil]; omega)), B_app, List.nil_append]
    · rw [if_neg (by intro e; rw [e] at hwl; exact h0 hwl.symm), decide_eq_true (by omega : (i : Int) > 0), cond_true, show strOf [124] = B [124] from B_strOf _, gd_true (decide_eq_true (by rw [B_size, B_size]; simp; omega)), gd_true (decide_eq_true (by omega)), gd_true rfl, spec_FormatTerm_n N hN n _ _ (by omega) g2 g3, B_app, gd_true (decide_eq_true (by rw [B_size, B_size, List.length_append]; simp; omega)), B_app]
  · simp only [zj145, zj144, tl_len]
    rw [decide_eq_false (by omega : ¬ (o.length : Int) < (o.length : Int)), cond_false, List.take_length, B_nil, B_toList, B_toList, hv, cond_true]
    unfold fsum
    have h := join_pos hn hg
    cases o with
    | nil => rw [B_strOf]; rfl
    | cons t o =>
      have hne : Lib.join (wordsT n (t :: o)) [124] ≠ [] := fun e => by cases h.1 e
      rw [beq_eq_false_iff_ne.2 hne]
      rfl
theorem impl_FormatSum_bad (N : Nat) (n : Int) (ts : List (Int × Int)) (h : ∀ K : Bool → Option β, zj64 N n ts K = K false) (K : ByteArray → Option β) : zj132 N n ts K = K (B []) := by
  unfold zj132
  rw [h]
  rfl
theorem spec_FormatSum_bad (N : Nat) (hN : 1048576 < N) (n : Int) (ts : List (Int × Int)) (h : ∀ K : Bool → Option β, zj79 N n ts K = K false) (K : ByteArray → Option β) : zj146 N n ts K = K (B []) := by
  obtain ⟨G, rfl⟩ : ∃ G, N = G + 1 := ⟨N - 1, by omega⟩
  unfold zj146
  simp only [zj145, zj144]
  cases decide ((0 : Int) < (ts.length : Int)) with
  | true => rw [cond_true, h, cond_false, B_nil, beq_self_eq_true, cond_true, h]; rfl
  | false => rw [cond_false, B_nil, beq_self_eq_true, cond_true, h]; rfl
theorem spl_pre (c : UInt8) : ∀ (w acc rest : List UInt8), c ∉ w → spl c acc (w ++ c :: rest) = (acc ++ w) :: spl c [] rest
  | [], acc, rest, _ => by rw [List.nil_append, spl, if_pos rfl, List.append_nil]
  | b :: w, acc, rest, h => by
    rw [List.cons_append, spl, if_neg (fun e => h (by rw [e]; exact List.mem_cons_self)), spl_pre c w _ rest (fun h' => h (List.mem_cons_of_mem _ h')), List.append_assoc]
    rfl
theorem spl_one (c : UInt8) : ∀ (w acc : List UInt8), c ∉ w → spl c acc w = [acc ++ w]
  | [], acc, _ => by rw [spl, List.append_nil]
  | b :: w, acc, h => by
    rw [spl, if_neg (fun e => h (by rw [e]; exact List.mem_cons_self)), spl_one c w _ (fun h' => h (List.mem_cons_of_mem _ h')), List.append_assoc]
    rfl
theorem spl_join (c : UInt8) : ∀ (ws : List (List UInt8)), ws ≠ [] → (∀ w ∈ ws, c ∉ w) → spl c [] (Lib.join ws [c]) = ws
  | [], h, _ => absurd rfl h
  | [w], _, h => by rw [Lib.join_one, spl_one c w [] (h w List.mem_cons_self)]; rfl
  | w :: x :: ws, _, h => by
    have e : Lib.join (w :: x :: ws) [c] = w ++ c :: Lib.join (x :: ws) [c] := by
      rw [Lib.join_cons, Lib.join_cons]
      simp [Lib.joinTail]
    rw [e, spl_pre c w [] _ (h w List.mem_cons_self), spl_join c (x :: ws) (by simp) (fun y hy => h y (List.mem_cons_of_mem _ hy))]
    rfl
theorem run_words {n : Nat} (hn : n ≤ 4) : ∀ (o out : List (Nat × Nat)), Ts n o → run (ptm n) (wordsT n o) out = some (out ++ o)
  | [], out, _ => by rw [List.append_nil]; rfl
  | t :: o, out, h => by
    have e := (ftb_good hn (h t List.mem_cons_self)).2.2.2.2
    show (match ptm n (ftb n t.1 t.2) with | some t => run (ptm n) (wordsT n o) (out ++ [t]) | none => none) = _
    rw [e]
    refine (run_words hn o (out ++ [t]) fun x hx => h x (List.mem_cons_of_mem _ hx)).trans ?_
    rw [List.append_assoc]
    rfl
theorem read_back (N : Nat) (hN : 1048576 < N) (n : Nat) (hn : n ≤ 4) (o : List (Nat × Nat)) (ho : o.length ≤ 8) (hg : Ts n o) (K : List (Int × Int) → Bool → Option β) : zj139 N (n : Int) (B (fsum n o)) K = K (tl o) true := by
  have hlen := fsum_len hn hg ho
  have hbits : ∀ K : Bool → Option β, zj53 N (n : Int) K = K true := fun K => by
    unfold zj53
    rw [decide_eq_true (by omega : (n : Int) ≥ 0), cond_true, decide_eq_true (by omega : (n : Int) ≤ 5)]
  have h48 : ((B (fsum n o)).toList == (strOf [48]).toList) = (fsum n o == [48]) := by rw [B_toList, B_strOf, B_toList]; rfl
  unfold zj139 strings_Split
  rw [hbits, Bool.not_true, cond_false, B_size, decide_eq_false (by omega), cond_false, h48]
  cases hc : (o.length == 0) with
  | true =>
    have e : o = [] := List.length_eq_zero_iff.1 (eq_of_beq hc)
    subst e
    rfl
  | false =>
    have hne : o ≠ [] := fun e => by subst e; cases hc
    have hnw : wordsT n o ≠ [] := fun e => hne (List.map_eq_nil_iff.1 e)
    have e1 : fsum n o = Lib.join (wordsT n o) [124] := by unfold fsum; rw [hc]; rfl
    have e2 : (fsum n o == [48]) = false := by
      refine beq_eq_false_iff_ne.2 fun e => ?_
      have h0 : (48 : UInt8) ∈ Lib.join (wordsT n o) [124] := by rw [← e1, e]; exact List.mem_singleton.2 rfl
      rcases join_mem 124 48 _ h0 with h | ⟨x, hx, h⟩
      · cases h
      · exact (words_le hn hg x hx).2.2.2 h
    have e3 : spl 124 [] (fsum n o) = wordsT n o := by
      rw [e1]; exact spl_join 124 _ hnw fun w hw => (words_le hn hg w hw).2.2.1
    have hsep : strOf [124] = ⟨#[124]⟩ := rfl
    rw [e2, cond_false, hsep, gd_true (decide_eq_true (show (⟨#[124]⟩ : ByteArray).size = 1 from rfl)), gd_true (decide_eq_true (by omega)), splitB_spl, B_list, e3]
    dsimp only
    rw [List.length_map]
    refine (impl_sum N n (ptm n) (fun p hp K => impl_ParseTerm_n N hN n (by omega) p hp K) (wordsT n o) (by rw [wordsT_len]; omega) (fun p hp => by have := (words_le hn hg p hp).2.1; omega) (fun e0 e1 => K e1 e0) (fun e0 e1 => zj64 N e0 e1 fun r11 => cond (!r11) (K [] false) (K e1 true)) (wordsT n o) [] N [] rfl (by rw [wordsT_len]; omega) (by simp)).trans ?_
    rw [run_words hn o [] hg]
    simp only [runK, List.nil_append]
    rw [impl_valid N hN n (by omega) o (by omega) hg, decide_eq_true (by omega)]
    rfl
end Go.Proofs.YtddflpokemgnmaaGreatDoor
namespace Go.Proofs.YtddflpokemgnmaaGreatDoor
open Go.Rv
variable {β : Type}
theorem sameTerms_same (N : Nat) (hN : 1048576 < N) (l : List (Int × Int)) (hl : l.length ≤ 1000) (k : Bool → Option β) : zj94 N l l k = k true := by
  unfold zj94
  rw [bne_self_eq_false, cond_false]
  refine loop_st (fun F i => zj93 N F l l (i : Int) (fun e => k e) (k true)) l.length _ (fun F i hi => ?_) (fun F => ?_) N 0 (by omega) (by omega)
  · simp only [zj93, zj92]
    rw [decide_eq_true (by omega : (i : Int) < (l.length : Int)), cond_true, gd_true (decide_eq_true (by omega)), gd_true rfl, gd_true (decide_eq_true (by omega)), gd_true rfl, beq_self_eq_true, beq_self_eq_true, Bool.and_self, Bool.not_true, cond_false, w64_succ i (by omega)]
  · simp only [zj93, zj92]
    rw [decide_eq_false (by omega), cond_false]
theorem sameInts_refl (N : Nat) (hN : 1048576 < N) (l : List Int) (hl : l.length ≤ 1000) (k : Bool → Option β) : zj97 N l l k = k true := by
  unfold zj97
  rw [bne_self_eq_false, cond_false]
  refine loop_st (fun F i => zj96 N F l l (i : Int) (fun e => k e) (k true)) l.length _ (fun F i hi => ?_) (fun F => ?_) N 0 (by omega) (by omega)
  · simp only [zj96, zj95]
    rw [decide_eq_true (by omega : (i : Int) < (l.length : Int)), cond_true, gd_true (decide_eq_true (by omega)), gd_true rfl, gd_true (decide_eq_true (by omega)), gd_true rfl, bne_self_eq_false, cond_false, w64_succ i (by omega)]
  · simp only [zj96, zj95]
    rw [decide_eq_false (by omega), cond_false]
theorem sameLists_rows (N : Nat) (hN : 1048576 < N) (ps : List (Nat × Nat)) (hl : ps.length ≤ 1000) (k : Bool → Option β) : zj100 N (rows ps) (rows ps) k = k true := by
  unfold zj100
  rw [bne_self_eq_false, cond_false]
  refine loop_st (fun F i => zj99 N F (rows ps) (rows ps) (i : Int) (fun e => k e) (k true)) ps.length _ (fun F i hi => ?_) (fun F => ?_) N 0 (by omega) (by omega)
  · simp only [zj99, zj98, rd_rows ps i hi, rows_len]
    rw [decide_eq_true (by omega : (i : Int) < (ps.length : Int)), cond_true, gd_true (decide_eq_true (by omega)), gd_true rfl, gd_true (decide_eq_true (by omega)), gd_true rfl, sameInts_refl N hN _ (by simp), Bool.not_true, cond_false, w64_succ i (by omega)]
  · simp only [zj99, zj98, rows_len]
    rw [decide_eq_false (by omega), cond_false]
theorem hz_comm (o : List (Nat × Nat)) (x y : Nat) : hz o x y = hz o y x := by
  unfold hz
  rw [Bool.and_comm (hold o x)]
  congr 2
  unfold both
  congr 1
  funext t
  exact Bool.and_comm ..
theorem HasHazard_n (N : Nat) (hN : 1048576 < N) (n : Nat) (hn : n ≤ 4) (o : List (Nat × Nat)) (ho : o.length ≤ 40) (hg : Ts n o) (x v : Int) (hx1 : -1 ≤ x) (hx2 : x < 32) (hv1 : -1 ≤ v) (hv2 : v < 6) :
    ∃ c : Bool, (∀ K : Bool → Option β, zj124 N (n : Int) (tl o) x v K = K c) ∧ (∀ K : Bool → Option β, zj162 N (n : Int) (tl o) x v K = K c) ∧ (∀ i j : Nat, x = (i : Int) → v = (j : Int) → i < 2 ^ n → j < n → c = hz o i (i ^^^ 2 ^ j)) := by
  have hs : 2 ^ n ≤ 16 := (Nat.pow_le_pow_right (by decide) hn : 2 ^ n ≤ 2 ^ 4)
  have hz0 : (0 : Int) ≤ ((2 ^ n : Nat) : Int) := Int.natCast_nonneg _
  have h1 : ∀ K : Bool → Option β, zj124 N (n : Int) (tl o) x v K = zj54 N (n : Int) x (fun r6 => cond r6 (cond (decide (v ≥ 0)) (cond (decide (v < (n : Int))) (gd (decide (0 ≤ v)) (zj67 N (tl o) x (bits .xor .i64 x (shlI .i64 1 v)) fun r7 => K r7)) (K false)) (K false)) (K false)) := fun K => by
    unfold zj124
    rw [impl_valid N hN n (by omega) o (by omega) hg, decide_eq_true (by omega), cond_true]
  have h2 : ∀ K : Bool → Option β, zj162 N (n : Int) (tl o) x v K = cond (decide (0 ≤ x) && decide (x ≤ ((2 ^ n - 1 : Nat) : Int))) (cond (decide (0 ≤ v) && decide (v ≤ w64 ((n : Int) - 1))) (gd (decide (0 ≤ v)) (zj82 N (tl o) x (bits .xor .i64 x (shlI .i64 1 v)) fun r8 => K r8)) (K false)) (K false) := fun K => by
    unfold zj162
    rw [spec_valid N hN n (by omega) o (by omega) hg, decide_eq_true (by omega), cond_true, gd_true (decide_eq_true (by omega)), shl_one n (by omega), full_n n hn, spec_l1In_eq]
    simp only [spec_l1In_eq]
  have h3 : ∀ K : Bool → Option β, zj54 N (n : Int) x K = K (decide (0 ≤ x) && decide (x < ((2 ^ n : Nat) : Int))) := fun K => by
    unfold zj54
    show cond (decide (0 ≤ x)) (gd (decide ((0 : Int) ≤ (n : Int))) (K (decide (x < shlI .i64 1 (n : Int))))) (K false) = _
    rw [gd_true (decide_eq_true (by omega)), shl_one n (by omega)]
    cases decide (0 ≤ x) <;> rfl
  have hwn : w64 ((n : Int) - 1) = (n : Int) - 1 := w64_id (by omega) (by omega)
  by_cases hx : 0 ≤ x ∧ x < ((2 ^ n : Nat) : Int)
  · by_cases hv : 0 ≤ v ∧ v < (n : Int)
    · obtain ⟨i, rfl⟩ := Int.eq_ofNat_of_zero_le hx.1
      obtain ⟨j, rfl⟩ := Int.eq_ofNat_of_zero_le hv.1
      have hj : 2 ^ j ≤ 8 := (Nat.pow_le_pow_right (by decide) (by omega : j ≤ 3) : 2 ^ j ≤ 2 ^ 3)
      have hxor : i ^^^ 2 ^ j < 2 ^ 4 := Nat.xor_lt_two_pow (by omega) (by omega)
      refine ⟨hz o i (i ^^^ 2 ^ j), fun K => ?_, fun K => ?_, fun i' j' e1 e2 _ _ => ?_⟩
      · rw [h1, h3, decide_eq_true hx.1, decide_eq_true hx.2, Bool.and_self, cond_true, decide_eq_true (show (j : Int) ≥ 0 from hv.1), cond_true, decide_eq_true hv.2, cond_true, gd_true rfl, shl_one j (by omega), bXor _ _ (by omega) (by omega), impl_isHazard_n N hN n o (by omega) hg _ _ (by omega) (by omega)]
      · rw [h2, decide_eq_true hx.1, decide_eq_true (by omega : (i : Int) ≤ ((2 ^ n - 1 : Nat) : Int)), Bool.and_self, cond_true, hwn, decide_eq_true hv.1, decide_eq_true (by omega : (j : Int) ≤ (n : Int) - 1), Bool.and_self, cond_true, gd_true rfl, shl_one j (by omega), bXor _ _ (by omega) (by omega), spec_l28Hazard_n N hN n o (by omega) hg _ _ (by omega) (by omega)]
      · rw [show i' = i by omega, show j' = j by omega]
    · refine ⟨false, fun K => ?_, fun K => ?_, fun i' j' e1 e2 _ h => absurd ⟨by omega, by omega⟩ hv⟩
      · rw [h1, h3, decide_eq_true hx.1, decide_eq_true hx.2, Bool.and_self, cond_true]
        by_cases h : 0 ≤ v
        · rw [decide_eq_true (show v ≥ 0 from h), cond_true, decide_eq_false (by omega), cond_false]
        · rw [decide_eq_false (show ¬ v ≥ 0 from h), cond_false]
      · have : (decide (0 ≤ v) && decide (v ≤ w64 ((n : Int) - 1))) = false := by
          rw [Bool.and_eq_false_iff, decide_eq_false_iff_not, decide_eq_false_iff_not, hwn]; omega
        rw [h2, this]
        cases (decide (0 ≤ x) && decide (x ≤ ((2 ^ n - 1 : Nat) : Int))) <;> rfl
  · refine ⟨false, fun K => ?_, fun K => ?_, fun i' j' e1 e2 h _ => absurd ⟨by omega, by omega⟩ hx⟩
    · have : (decide (0 ≤ x) && decide (x < ((2 ^ n : Nat) : Int))) = false := by
        rw [Bool.and_eq_false_iff, decide_eq_false_iff_not, decide_eq_false_iff_not]; omega
      rw [h1, h3, this]
      rfl
    · have : (decide (0 ≤ x) && decide (x ≤ ((2 ^ n - 1 : Nat) : Int))) = false := by
        have := Nat.one_le_two_pow (n := n)
        rw [Bool.and_eq_false_iff, decide_eq_false_iff_not, decide_eq_false_iff_not]; omega
      rw [h2, this]
      rfl
theorem edge_back : ∀ n : Nat, n ≤ 4 → ∀ x : Nat, x < 2 ^ n → ∀ i : Nat, i < n → x.testBit i = false → (x ||| 2 ^ i) ^^^ 2 ^ i = x ∧ x ^^^ 2 ^ i = (x ||| 2 ^ i) := by decide +kernel
theorem pow_inj5 : ∀ i : Nat, i < 5 → ∀ j : Nat, j < i → (((2 ^ i : Nat) : Int) != ((2 ^ j : Nat) : Int)) = true := by decide +kernel
theorem haz_loop (N : Nat) (hN : 1048576 < N) (a0 : List Int) (n : Nat) (hn : n ≤ 4) (o : List (Nat × Nat)) (ho : o.length ≤ 40) (hg : Ts n o) (k0 : Bool → Option β) (k1 : List Int → Int → List (Int × Int) → Option β) :
    zj166 N N a0 (n : Int) 0 (tl o) (rows (hzl n o (2 ^ n))) k0 k1 = k1 a0 (n : Int) (tl o) := by
  have hs : 2 ^ n ≤ 16 := (Nat.pow_le_pow_right (by decide) hn : 2 ^ n ≤ 2 ^ 4)
  have he : ∀ p ∈ hzl n o (2 ^ n), Edge n p ∧ hz o p.1 p.2 = true := fun p hp => hzl_edge n o p hp
  have hl := hzl_len n o (2 ^ n)
  have hl2 := unsl_32 n hn
  generalize hzl n o (2 ^ n) = ps at he hl
  refine loop_st (fun F i => zj166 N F a0 (n : Int) (i : Int) (tl o) (rows ps) k0 k1) ps.length _ (fun F i hi => ?_) (fun F => ?_) N 0 (by omega) (by omega)
  · obtain ⟨⟨x, hx, j, hj, hb, hpe⟩, hh⟩ := he _ (List.getElem_mem hi)
    obtain ⟨e1, e2, e3, e4, -, -, -, -, e9⟩ := edge_all n hn x hx j hj hb
    obtain ⟨b1, b2⟩ := edge_back n hn x hx j hj hb
    have q1 : ps[i].1 = x := by rw [hpe]
    have q2 : ps[i].2 = x ||| 2 ^ j := by rw [hpe]
    rw [q1, q2] at hh
    have gi0 : decide ((0 : Int) ≤ (i : Int)) = true := decide_eq_true (by omega)
    have gi1 : decide ((i : Int) < (ps.length : Int)) = true := decide_eq_true (by omega)
    have g0 : ∀ X : Option β, gd (decide ((0 : Int) < ((0 + 1 + 1 : Nat) : Int))) X = X := fun _ => rfl
    have g1 : ∀ X : Option β, gd (decide ((1 : Int) < ((0 + 1 + 1 : Nat) : Int))) X = X := fun _ => rfl
    have gdT : ∀ X : Option β, gd true X = X := fun _ => rfl
    have hr : rd [] (rows ps) (i : Int) = [(x : Int), ((x ||| 2 ^ j : Nat) : Int)] := by rw [rd_rows ps i hi, q1, q2]
    simp only [zj166, zj165, rows_len]
    rw [decide_eq_true (by omega : (i : Int) < (ps.length : Int)), cond_true]
    refine (loop_st (fun H v => zj164 N H a0 (n : Int) (i : Int) (v : Int) (tl o) (rows ps) _) j _ (fun H v hv => ?_) (fun H => ?_) N 0 (by omega) (by omega)).trans rfl
    · simp only [zj164, zj163, rows_len, hr, List.length_cons, List.length_nil]
      simp only [gi0, gi1, g0, g1, gdT, decide_eq_true (by omega : (0 : Int) ≤ (v : Int))]
      rw [show rd 0 [(x : Int), ((x ||| 2 ^ j : Nat) : Int)] 0 = (x : Int) from rfl, show rd 0 [(x : Int), ((x ||| 2 ^ j : Nat) : Int)] 1 = ((x ||| 2 ^ j : Nat) : Int) from rfl, e9, shl_one v (by omega), pow_inj5 j (by omega) v hv, cond_true, w64_succ v (by omega)]
    · simp only [zj164, zj163, rows_len, hr, List.length_cons, List.length_nil]
      simp only [gi0, gi1, g0, g1, gdT, decide_eq_true (by omega : (0 : Int) ≤ (j : Int))]
      rw [show rd 0 [(x : Int), ((x ||| 2 ^ j : Nat) : Int)] 0 = (x : Int) from rfl, show rd 0 [(x : Int), ((x ||| 2 ^ j : Nat) : Int)] 1 = ((x ||| 2 ^ j : Nat) : Int) from rfl, e9, shl_one j (by omega), bne_self_eq_false, cond_false]
      obtain ⟨c1, f1, -, y1⟩ := HasHazard_n (β := β) N hN n hn o ho hg (x : Int) (j : Int) (by omega) (by omega) (by omega) (by omega)
      obtain ⟨c2, f2, -, y2⟩ := HasHazard_n (β := β) N hN n hn o ho hg ((x ||| 2 ^ j : Nat) : Int) (j : Int) (by omega) (by omega) (by omega) (by omega)
      have h1 := y1 x j rfl rfl hx hj
      have h2 := y2 (x ||| 2 ^ j) j rfl rfl e1 hj
      rw [b2, hh] at h1
      rw [b1, hz_comm, hh] at h2
      subst h1 h2
      rw [f1, Bool.not_true, cond_false, f2, Bool.not_true, cond_false, w64_succ i (by omega)]
  · simp only [zj166, zj165, rows_len]
    rw [decide_eq_false (by omega : ¬ (ps.length : Int) < (ps.length : Int)), cond_false]
theorem rem_nat' (x m : Nat) : remI (x : Int) (m : Int) = ((x % m : Nat) : Int) := by
  unfold remI
  rw [Int.natCast_emod]
  exact Int.tmod_eq_emod_of_nonneg (Int.natCast_nonneg x)
theorem quo_nat' (x m : Nat) (hx : x < 2 ^ 63) : quoI .i64 (x : Int) (m : Int) = ((x / m : Nat) : Int) := by
  unfold quoI
  have h : ((x : Int).tdiv (m : Int)) = ((x / m : Nat) : Int) := Int.tdiv_eq_ediv_of_nonneg (Int.natCast_nonneg x)
  have h2 : x / m ≤ x := Nat.div_le_self _ _
  rw [h]
  exact wrap_small _ (Int.natCast_nonneg _) (by omega)
theorem HasDraw_loop (N : Nat) (hN : 1048576 < N) (b : List Int) (hb : b.length ≤ 9223372036854775807) (n : Nat) (hn : n ≤ 4) (ts : List (Int × Int)) (ps : List (Nat × Nat)) (hp : ∀ p ∈ ps, p.1 < 32 ∧ p.2 < 32) (hpl : ps.length ≤ 1000) :
    ∃ x v : Int, (-1 ≤ x ∧ x < 32) ∧ (-1 ≤ v ∧ v < 6) ∧ ∀ k : Int → List (Int × Int) → Int → Int → Option β, zj160 N N b (n : Int) 0 ts (rows ps) (fun e0 e1 e2 e3 => k e0 e3 e1 e2) (fun e0 e1 e2 => k e1 e2 (w64 ((remI (e0.length : Int) 17) - 1)) (w64 ((remI (e0.length : Int) 6) - 1))) = k (n : Int) ts x v := by
  have last : ∀ F i : Nat, (∀ k : Int → List (Int × Int) → Int → Int → Option β, zj160 N (F + 1) b (n : Int) (i : Int) ts (rows ps) (fun e0 e1 e2 e3 => k e0 e3 e1 e2) (fun e0 e1 e2 => k e1 e2 (w64 ((remI (e0.length : Int) 17) - 1)) (w64 ((remI (e0.length : Int) 6) - 1))) = k (n : Int) ts (w64 ((remI (b.length : Int) 17) - 1)) (w64 ((remI (b.length : Int) 6) - 1))) → ∃ x v : Int, (-1 ≤ x ∧ x < 32) ∧ (-1 ≤ v ∧ v < 6) ∧ ∀ k : Int → List (Int × Int) → Int → Int → Option β, zj160 N (F + 1) b (n : Int) (i : Int) ts (rows ps) (fun e0 e1 e2 e3 => k e0 e3 e1 e2) (fun e0 e1 e2 => k e1 e2 (w64 ((remI (e0.length : Int) 17) - 1)) (w64 ((remI (e0.length : Int) 6) - 1))) = k (n : Int) ts x v := by
    intro F i h
    refine ⟨_, _, ?_, ?_, h⟩
    · rw [show remI (b.length : Int) 17 = ((b.length % 17 : Nat) : Int) from rem_nat' _ 17]
      have := Nat.mod_lt b.length (by decide : 17 > 0)
      rw [w64_id (by omega) (by omega)]; omega
    · rw [show remI (b.length : Int) 6 = ((b.length % 6 : Nat) : Int) from rem_nat' _ 6]
      have := Nat.mod_lt b.length (by decide : 6 > 0)
      rw [w64_id (by omega) (by omega)]; omega
  have key : ∀ (d i F : Nat), n - i = d → i ≤ n → d < F → ∃ x v : Int, (-1 ≤ x ∧ x < 32) ∧ (-1 ≤ v ∧ v < 6) ∧ ∀ k : Int → List (Int × Int) → Int → Int → Option β, zj160 N F b (n : Int) (i : Int) ts (rows ps) (fun e0 e1 e2 e3 => k e0 e3 e1 e2) (fun e0 e1 e2 => k e1 e2 (w64 ((remI (e0.length : Int) 17) - 1)) (w64 ((remI (e0.length : Int) 6) - 1))) = k (n : Int) ts x v := by
    intro d
    induction d with
    | zero =>
      intro i F hd hi hF
      obtain ⟨G, rfl⟩ : ∃ G, F = G + 1 := ⟨F - 1, by omega⟩
      refine last G i fun k => ?_
      simp only [zj160, zj159]
      rw [decide_eq_false (by omega), cond_false]
    | succ d ih =>
      intro i F hd hi hF
      obtain ⟨G, rfl⟩ : ∃ G, F = G + 1 := ⟨F - 1, by omega⟩
      cases h0 : decide (((rows ps).length : Int) > 0) with
      | false =>
        refine last G i fun k => ?_
        simp only [zj160, zj159]
        rw [decide_eq_true (by omega : (i : Int) < (n : Int)), cond_true, h0, cond_false]
      | true =>
        rw [decide_eq_true_eq, rows_len] at h0
        cases h1 : (remI (b.length : Int) 2 == 0) with
        | false =>
          refine last G i fun k => ?_
          simp only [zj160, zj159]
          rw [decide_eq_true (by omega : (i : Int) < (n : Int)), cond_true, decide_eq_true (by rw [rows_len]; exact h0), cond_true, h1, cond_false]
        | true =>
          have hq : remI (quoI .i64 (b.length : Int) 2) ((rows ps).length : Int) = ((b.length / 2 % ps.length : Nat) : Int) := by
            rw [show quoI .i64 (b.length : Int) 2 = ((b.length / 2 : Nat) : Int) from quo_nat' _ 2 (by omega), rows_len]; exact rem_nat' _ _
          have hq4 : remI (quoI .i64 (b.length : Int) 4) 2 = ((b.length / 4 % 2 : Nat) : Int) := by
            rw [show quoI .i64 (b.length : Int) 4 = ((b.length / 4 : Nat) : Int) from quo_nat' _ 4 (by omega)]; exact rem_nat' _ 2
          have hi2 : b.length / 2 % ps.length < ps.length := Nat.mod_lt _ (by omega)
          have hi4 : b.length / 4 % 2 < 2 := Nat.mod_lt _ (by decide)
          generalize b.length / 2 % ps.length = e at hq hi2
          generalize b.length / 4 % 2 = f at hq4 hi4
          obtain ⟨p1, p2⟩ := hp _ (List.getElem_mem hi2)
          have unf : ∀ k : Int → List (Int × Int) → Int → Int → Option β, zj160 N (G + 1) b (n : Int) (i : Int) ts (rows ps) (fun e0 e1 e2 e3 => k e0 e3 e1 e2) (fun e0 e1 e2 => k e1 e2 (w64 ((remI (e0.length : Int) 17) - 1)) (w64 ((remI (e0.length : Int) 6) - 1))) =
              cond (bits .xor .i64 (ps[e].1 : Int) (ps[e].2 : Int) == shlI .i64 1 (i : Int)) (k (n : Int) ts (rd 0 [(ps[e].1 : Int), (ps[e].2 : Int)] (f : Int)) (i : Int)) (zj160 N G b (n : Int) ((i + 1 : Nat) : Int) ts (rows ps) (fun e0 e1 e2 e3 => k e0 e3 e1 e2) (fun e0 e1 e2 => k e1 e2 (w64 ((remI (e0.length : Int) 17) - 1)) (w64 ((remI (e0.length : Int) 6) - 1)))) := fun k => by
            simp only [zj160, zj159]
            simp only [hq, hq4, rd_rows ps e hi2]
            rw [decide_eq_true (by omega : (i : Int) < (n : Int)), cond_true, rows_len, decide_eq_true (by omega : (ps.length : Int) > 0), cond_true, h1, cond_true, gd_true (by rw [bne_iff_ne]; omega), gd_true (decide_eq_true (by omega)), gd_true (decide_eq_true (by omega)), gd_true (show decide ((0 : Int) < ([(ps[e].1 : Int), (ps[e].2 : Int)].length : Int)) = true from rfl), gd_true (show decide ((1 : Int) < ([(ps[e].1 : Int), (ps[e].2 : Int)].length : Int)) = true from rfl), gd_true (decide_eq_true (by omega)), gd_true (decide_eq_true (by omega)), gd_true (decide_eq_true (by simp only [List.length_cons, List.length_nil]; omega)), w64_succ i (by omega)]
            rfl
          cases hx : (bits .xor .i64 (ps[e].1 : Int) (ps[e].2 : Int) == shlI .i64 1 (i : Int)) with
          | true =>
            refine ⟨rd 0 [(ps[e].1 : Int), (ps[e].2 : Int)] (f : Int), (i : Int), ?_, by omega, fun k => by rw [unf, hx]; rfl⟩
            rcases (show f = 0 ∨ f = 1 by omega) with rfl | rfl
            · rw [show rd 0 [(ps[e].1 : Int), (ps[e].2 : Int)] ((0 : Nat) : Int) = (ps[e].1 : Int) from rfl]; omega
            · rw [show rd 0 [(ps[e].1 : Int), (ps[e].2 : Int)] ((1 : Nat) : Int) = (ps[e].2 : Int) from rfl]; omega
          | false =>
            obtain ⟨x, v, g1, g2, g3⟩ := ih (i + 1) G (by omega) (by omega) (by omega)
            exact ⟨x, v, g1, g2, fun k => by rw [unf, hx, cond_false]; exact g3 k⟩
  exact key n 0 N (by omega) (by omega) (by omega)
theorem ParseDraw_ends (N : Nat) (hN : 1048576 < N) (b : List Int) (hb : b.length ≤ 9223372036854775807) :
    ∃ (c : Int) (s : List UInt8), ∀ K : Int → ByteArray → Option β, zj152 N b K = K c (B s) := by
  unfold zj152
  obtain ⟨h', e1⟩ := l1New_ends (β := β) N (by omega) b hb
  obtain ⟨n, ts, i2, h2, hn, g, p2, e2⟩ := l28Draw_ends (β := β) N hN b hb 0 h' (by omega)
  have hF : ∃ s : List UInt8, s.length ≤ 100 ∧ ∀ K : ByteArray → Option β, zj146 N (n : Int) ts K = K (B s) := by
    rcases DT_cases (β := β) N hN n hn ts g with ⟨o, h1, h2, rfl⟩ | ⟨h1, h2⟩
    · exact ⟨fsum n o, fsum_len hn h1 h2, fun K => spec_FormatSum_n N hN n hn o h2 h1 K⟩
    · exact ⟨[], by simp, fun K => spec_FormatSum_bad N hN _ ts h1 K⟩
  obtain ⟨s, hs, e3⟩ := hF
  obtain ⟨q, i3, h3, -, -, p3, e4⟩ := l1Below_ends (β := β) N 4 b i2 h2 (by decide) p2 hb
  simp only [e1, e2, e3, e4]
  cases h0 : ((q : Int) == 0) with
  | true =>
    obtain ⟨t, i4, h4, -, -, e5⟩ := l1Spoil_ends (β := β) N hN b hb s (by omega) i3 h3 p3
    exact ⟨n, t, fun K => by rw [cond_true]; exact e5 _⟩
  | false =>
    cases h1 : ((q : Int) == 1) with
    | true =>
      unfold zj151
      generalize hpk : (((((((((([] : List ByteArray) ++ [ByteArray.empty]) ++ [strOf [48]]) ++ [strOf [49]]) ++ [strOf [97, 124]]) ++ [strOf [124, 97]]) ++ [strOf [97, 124, 97]]) ++ [strOf [97, 98, 124, 33, 97]]) ++ [strOf [97, 124, 124, 98]]) ++ [strOf [97, 124, 48]]) = l
      have hlen : l.length = 9 := by rw [← hpk]; rfl
      obtain ⟨r, i4, h4, r1, -, p4, e5⟩ := l1Below_ends (β := β) N (l.length : Int) b i3 h3 (by omega) p3 hb
      have hr := r1 (by omega)
      refine ⟨n, (rd ByteArray.empty l (r : Int)).data.toList, fun K => ?_⟩
      rw [cond_false, cond_true, e5, gd_true (decide_eq_true (by omega)), gd_true (decide_eq_true (by omega)), B_data]
    | false => exact ⟨n, s, fun K => by rw [cond_false, cond_false]⟩

theorem law_FnHazards (N : Nat) (hN : 1048576 < N) (a0 : List Int) (hb : (a0.length : Int) ≤ 9223372036854775807) (k : Bool → Option β) : zj167 N a0 k = k true := by
  have hb' : a0.length ≤ 9223372036854775807 := by omega
  obtain ⟨n, ts, hn, g, e1⟩ := both_ends (β := β) N hN a0 hb'
  obtain ⟨c, s, e2⟩ := ParseDraw_ends (β := β) N hN a0 hb'
  obtain ⟨po, pb, pl, -, s1, s2⟩ := Sum_both (β := β) N hN c s
  have sT := fun K => sameTerms_same (β := β) N hN (tl po) (by rw [tl_len]; omega) K
  have d1 : ∀ K : Int → List (Int × Int) → Option β, zj52 N a0 K = K (n : Int) ts := fun K => by unfold zj52; exact e1 _
  have d2 : ∀ K : Int → List (Int × Int) → Option β, zj140 N a0 K = K (n : Int) ts := fun K => by unfold zj140; exact e1 _
  unfold zj167 zj0
  cases decide ((a0.length : Int) > 1048576) with
  | true => rfl
  | false =>
    rcases DT_cases (β := β) N hN n hn ts g with ⟨o, hg, ho, rfl⟩ | ⟨v1, v2⟩
    · have hs : 2 ^ n ≤ 16 := (Nat.pow_le_pow_right (by decide) hn : 2 ^ n ≤ 2 ^ 4)
      have hl := hzl_len n o (2 ^ n)
      have hl2 := unsl_32 n hn
      have hpl := prl_len n (tabw (hold o) (2 ^ n)) (2 ^ n) hs
      obtain ⟨q1, q2, q3, q4⟩ := fixd_all hn o hg ho
      have hh : ∃ x v : Int, (-1 ≤ x ∧ x < 32) ∧ (-1 ≤ v ∧ v < 6) ∧ ∀ K : Int → List (Int × Int) → Int → Int → Option β, zj161 N a0 K = K (n : Int) (tl o) x v := by
        obtain ⟨x, v, h1, h2, h3⟩ := HasDraw_loop (β := β) N hN a0 hb' n hn (tl o) (hzl n o (2 ^ n)) (fun p hp => by
          obtain ⟨q1, q2, -⟩ := rept_edge hn (hzl_edge n o p hp).1
          omega) (by omega)
        refine ⟨x, v, h1, h2, fun K => ?_⟩
        unfold zj161
        rw [e1, spec_HazardsOf_n N hN n hn o (by omega) hg]
        exact h3 K
      obtain ⟨x, v, hx, hv, d3⟩ := hh
      obtain ⟨b, b1, b2, -⟩ := HasHazard_n (β := β) N hN n hn o (by omega) hg x v hx.1 hx.2 hv.1 hv.2
      have r1 := fun K => impl_RepairSum_n (β := β) N hN n hn o ho hg K
      have r2 := fun K => spec_RepairSum_n (β := β) N hN n hn o ho hg K
      have h1 : ∀ K : List (List Int) → Bool → Option β, zj91 N (n : Int) (tl o) K = K (rows (hzl n o (2 ^ n))) true := fun K => by
        unfold zj91
        rw [impl_valid N hN n (by omega) o (by omega) hg, decide_eq_true (by omega), Bool.not_true, cond_false, impl_hazards_n N hN n hn o (by omega) hg]
      have h2 := fun K => spec_HazardsOf_n (β := β) N hN n hn o (by omega) hg K
      have t1 := fun K => sameTerms_same (β := β) N hN (tl (fixd n o)) (by rw [tl_len]; omega) K
      have t2 := fun K => sameTerms_same (β := β) N hN (tl o) (by rw [tl_len]; omega) K
      have t3 := fun K => sameLists_rows (β := β) N hN (hzl n o (2 ^ n)) (by omega) K
      have f1 := fun K => impl_IsHazardFree_n (β := β) N hN n hn o (by omega) hg K
      have f2 : ∀ K : Bool → Option β, zj101 N (n : Int) (tl (fixd n o)) K = K true := fun K => by rw [impl_IsHazardFree_n N hN n hn _ q2 q1, q4]; rfl
      have w1 := fun K => impl_TableOfTerms_n (β := β) N hN n (by omega) o (by omega) hg K
      have w2 : ∀ K : Int → Int → Bool → Option β, zj107 N (n : Int) (tl (fixd n o)) K = K (n : Int) (tabw (hold o) (2 ^ n) : Int) true := fun K => by
        rw [impl_TableOfTerms_n N hN n (by omega) _ (by omega) q1, tabw_congr q3]
      have p1 := fun K => PrimesOf_n (β := β) N hN n _ hn (tabw_lt (hold o) (2 ^ n)) K
      have f3 : decide (((tl (prl n (tabw (hold o) (2 ^ n)) (2 ^ n))).length : Int) ≤ 40) = true → ∀ K : Bool → Option β, zj101 N (n : Int) (tl (prl n (tabw (hold o) (2 ^ n)) (2 ^ n))) K = K true := fun h K => by
        rw [decide_eq_true_eq, tl_len] at h
        rw [impl_IsHazardFree_n N hN n hn _ (by omega) (prl_good n _ hn), primes_free n _ hn]
        rfl
      have m1 := fun k0 k1 => haz_loop (β := β) N hN a0 n hn o (by omega) hg k0 k1
      have z1 := fun K => impl_FormatSum_n (β := β) N hN n hn o ho hg K
      have z2 := fun K => spec_FormatSum_n (β := β) N hN n hn o ho hg K
      have z3 := fun K => read_back (β := β) N hN n hn o ho hg K
      generalize tl (prl n (tabw (hold o) (2 ^ n)) (2 ^ n)) = pr at p1 f3
      cases hc : decide ((pr.length : Int) ≤ 40) with
      | true =>
        have f4 := f3 hc
        simp only [d1, d2, d3, e2, s1, s2, sT, r1, r2, h1, h2, t1, t2, t3, f1, f2, f4, w1, w2, p1, m1, z1, z2, z3, b1, b2, hc, beq_self_eq_true, Bool.not_true, Bool.and_self, cond_false, cond_true]
      | false =>
        simp only [d1, d2, d3, e2, s1, s2, sT, r1, r2, h1, h2, t1, t2, t3, f1, f2, w1, w2, p1, m1, z1, z2, z3, b1, b2, hc, beq_self_eq_true, Bool.not_true, Bool.and_self, cond_false, cond_true]
    · have hh : ∃ x v : Int, ∀ K : Int → List (Int × Int) → Int → Int → Option β, zj161 N a0 K = K (n : Int) ts x v := by
        obtain ⟨x, v, h1, h2, h3⟩ := HasDraw_loop (β := β) N hN a0 hb' n hn ts [] (fun p hp => by cases hp) (by simp)
        refine ⟨x, v, fun K => ?_⟩
        unfold zj161 zj87
        rw [e1, v1, Bool.not_false, cond_true]
        exact h3 K
      obtain ⟨x, v, d3⟩ := hh
      have r1 : ∀ K : List (Int × Int) → Bool → Option β, zj75 N (n : Int) ts K = K [] false := fun K => by unfold zj75; rw [v2]; rfl
      have h2 : ∀ K : List (List Int) → Bool → Option β, zj87 N (n : Int) ts K = K [] false := fun K => by unfold zj87; rw [v1]; rfl
      have r2 : ∀ K : List (Int × Int) → Bool → Option β, zj90 N (n : Int) ts K = K [] false := fun K => by unfold zj90; rw [h2]; rfl
      have h1 : ∀ K : List (List Int) → Bool → Option β, zj91 N (n : Int) ts K = K [] false := fun K => by unfold zj91; rw [v2]; rfl
      have t1 := fun K => sameTerms_same (β := β) N hN [] (by simp) K
      have t3 : ∀ K : Bool → Option β, zj100 N [] [] K = K true := sameLists_rows (β := β) N hN [] (by simp)
      have f1 : ∀ K : Bool → Option β, zj101 N (n : Int) ts K = K false := fun K => by unfold zj101; rw [v2]; rfl
      have z1 := fun K => impl_FormatSum_bad (β := β) N (n : Int) ts v2 K
      have z2 := fun K => spec_FormatSum_bad (β := β) N hN (n : Int) ts v1 K
      have b1 : ∀ K : Bool → Option β, zj124 N (n : Int) ts x v K = K false := fun K => by unfold zj124; rw [v2]; rfl
      have b2 : ∀ K : Bool → Option β, zj162 N (n : Int) ts x v K = K false := fun K => by unfold zj162; rw [v1]; rfl
      simp only [d1, d2, d3, e2, s1, s2, sT, r1, r2, h1, h2, t1, t3, f1, z1, z2, b1, b2, beq_self_eq_true, Bool.not_true, cond_false, cond_true]
end Go.Proofs.YtddflpokemgnmaaGreatDoor
