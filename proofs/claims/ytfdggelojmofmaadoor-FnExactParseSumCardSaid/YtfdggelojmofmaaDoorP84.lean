/- Plain laws of the texts: terms read. -/
import Derived.Test.YtfdggelojmofmaaDoorP83
namespace Go.Proofs.YtfdggelojmofmaaDoor
open Go.Rv
set_option linter.unusedVariables false
variable {β : Type}
/-- What the letters say. -/
def scn : List UInt8 → Bool → Nat → Nat → Nat × Nat
  | [], _, m, v => (m, v)
  | b :: l, f, m, v =>
    if b.toNat = 33 then scn l true m v
    else if 97 ≤ b.toNat ∧ b.toNat < 102 then scn l false (m ||| 2 ^ (b.toNat - 97)) (cond f v (v ||| 2 ^ (b.toNat - 97)))
    else scn l f m v
theorem pow5 {k : Nat} (h : k < 5) : 2 ^ k < 2 ^ 5 := Nat.pow_lt_pow_right (by decide) h
theorem or5 {a b : Nat} (ha : a < 32) (hb : b < 2 ^ 5) : a ||| b < 32 := Nat.or_lt_two_pow (n := 5) ha hb
theorem scn_lt : ∀ (l : List UInt8) (f : Bool) (m v : Nat), m < 32 → v < 32 → (scn l f m v).1 < 32 ∧ (scn l f m v).2 < 32
  | [], f, m, v, hm, hv => ⟨hm, hv⟩
  | b :: l, f, m, v, hm, hv => by
    unfold scn
    split
    · exact scn_lt l _ _ _ hm hv
    · split
      · rename_i h
        have hp := pow5 (k := b.toNat - 97) (by omega)
        refine scn_lt l _ _ _ (or5 hm hp) ?_
        cases f
        · exact or5 hv hp
        · exact hv
      · exact scn_lt l _ _ _ hm hv
def goodB (n : Nat) (b : UInt8) : Bool := Nat.beq b.toNat 33 || (decide (97 ≤ b.toNat) && decide (b.toNat < 97 + n))
def good (n : Nat) (l : List UInt8) : Bool := l.all (goodB n)
theorem ft_good (n m v : Nat) (hn : n ≤ 5) : ∀ i, i ≤ n → good n (ft m v i) = true
  | 0, _ => rfl
  | i + 1, h => by
    have h1 := ft_good n m v hn i (by omega)
    have hb : goodB n (UInt8.ofNat (97 + i)) = true := by
      have e : (UInt8.ofNat (97 + i)).toNat = 97 + i := by rw [UInt8.toNat_ofNat']; omega
      unfold goodB
      rw [e, decide_eq_true (by omega), decide_eq_true (by omega)]
      simp
    unfold good at h1 ⊢
    rw [ft, List.all_append, h1, Bool.true_and]
    cases m.testBit i <;> cases v.testBit i <;> simp only [cond_true, cond_false, List.all_cons, List.all_nil, hb, Bool.and_true] <;> rfl

theorem bt_mid (pre rest : List UInt8) (b : UInt8) : bt (B (pre ++ b :: rest)) (pre.length : Int) = (b.toNat : Int) := by
  rw [B_bt _ pre.length (by simp)]
  simp
theorem eq33 (b : UInt8) : ((b.toNat : Int) == 33) = decide (b.toNat = 33) := by
  rw [Bool.eq_iff_iff, beq_iff_eq, decide_eq_true_eq]
  omega

theorem impl_scan (N n : Nat) (l : List UInt8) (hl : l.length ≤ 1000) (K0 : Int → ByteArray → Int → Int → Int → Int → Option β) : ∀ (rest pre : List UInt8) (F : Nat) (f : Bool) (m v : Nat), pre ++ rest = l → rest.length < F → m < 32 → v < 32 →
    impl_ParseTerm_l0 N F (n : Int) (B l) (cond f 0 1) (l.length : Int) (pre.length : Int) 0 0 (m : Int) (v : Int) K0 = K0 (n : Int) (B l) 0 0 ((scn rest f m v).1 : Int) ((scn rest f m v).2 : Int) := by
  intro rest
  induction rest with
  | nil =>
    intro pre F f m v hp hF hm hv
    obtain ⟨G, rfl⟩ : ∃ G, F = G + 1 := ⟨F - 1, by simp at hF; omega⟩
    have hlen : l.length = pre.length := by rw [← hp]; simp
    simp only [impl_ParseTerm_l0, impl_ParseTerm_l0b, scn]
    rw [decide_eq_false (by omega), cond_false]
  | cons b rest ih =>
    intro pre F f m v hp hF hm hv
    simp only [List.length_cons] at hF
    obtain ⟨G, rfl⟩ : ∃ G, F = G + 1 := ⟨F - 1, by omega⟩
    have hlen : l.length = pre.length + (rest.length + 1) := by rw [← hp]; simp
    have hbt : bt (B l) (pre.length : Int) = (b.toNat : Int) := by rw [← hp]; exact bt_mid pre rest b
    have hb := b.toNat_lt
    have next := fun f m v hm hv => ih (pre ++ [b]) G f m v (by rw [← hp]; simp) (by omega) hm hv
    simp only [List.length_append, List.length_cons, List.length_nil, Nat.zero_add] at next
    simp only [impl_ParseTerm_l0, impl_ParseTerm_l0b, hbt, B_size, impl_isLetter, eq33]
    rw [decide_eq_true (by omega : (pre.length : Int) < (l.length : Int)), cond_true, gd_true (decide_eq_true (by omega)), gd_true rfl, w64_succ _ (by omega)]
    unfold scn
    by_cases h33 : b.toNat = 33
    · rw [decide_eq_true h33, cond_true, if_pos h33]
      exact next true m v hm hv
    · rw [decide_eq_false h33, cond_false, if_neg h33, gd_true (decide_eq_true (by omega)), gd_true rfl]
      by_cases h97 : 97 ≤ b.toNat
      · rw [decide_eq_true (by omega : (b.toNat : Int) ≥ 97), cond_true]
        by_cases h102 : b.toNat < 102
        · have hp5 := pow5 (k := b.toNat - 97) (by omega)
          have hw : w8 ((b.toNat : Int) - 97) = ((b.toNat - 97 : Nat) : Int) := by
            rw [show (b.toNat : Int) - 97 = ((b.toNat - 97 : Nat) : Int) by omega, w8_small _ (by omega)]
          rw [decide_eq_true (by omega : (b.toNat : Int) < 102), cond_true, if_pos ⟨h97, h102⟩, hw, gd_true (decide_eq_true (by omega)), gd_true rfl, gd_true (decide_eq_true (by omega)), gd_true (decide_eq_true (by omega)), gd_true rfl, gd_true (decide_eq_true (by omega)), shl_one _ (by omega), bOr m _ (by omega) (by omega)]
          cases f with
          | false =>
            have e : shlI .i64 (cond false 0 1) ((b.toNat - 97 : Nat) : Int) = ((2 ^ (b.toNat - 97) : Nat) : Int) := shl_one _ (by omega)
            rw [e, bOr v _ (by omega) (by omega)]
            exact next false _ _ (or5 hm hp5) (or5 hv hp5)
          | true =>
            have e : shlI .i64 (cond true 0 1) ((b.toNat - 97 : Nat) : Int) = ((0 : Nat) : Int) := by
              have := shl_nat 0 (b.toNat - 97) (by omega) (by omega)
              rw [Nat.zero_mul] at this
              exact this
            rw [e, bOr v 0 (by omega) (by omega), Nat.or_zero]
            exact next false _ _ (or5 hm hp5) hv
        · rw [decide_eq_false (by omega), cond_false, if_neg (by omega)]
          exact next f m v hm hv
      · rw [decide_eq_false (by omega), cond_false, cond_false, if_neg (by omega)]
        exact next f m v hm hv

theorem spec_scan (N n : Nat) (hn : n ≤ 5) (l : List UInt8) (hl : l.length ≤ 1000) (h1 : l ≠ [49]) (k0 : Bool → Int → Int → Option β) (K0 : Int → ByteArray → Int → Int → Int → Int → Option β) : ∀ (rest pre : List UInt8) (F : Nat) (f : Bool) (m v : Nat), pre ++ rest = l → rest.length < F → m < 32 → v < 32 →
    spec_ParseTerm_l0 N F (n : Int) (B l) f (pre.length : Int) 0 0 (m : Int) (v : Int) k0 K0 = cond (good n rest) (K0 (n : Int) (B l) 0 0 ((scn rest f m v).1 : Int) ((scn rest f m v).2 : Int)) (k0 false 0 0) := by
  have h49 : ((B l).toList == (strOf [49]).toList) = false := by
    rw [B_toList, B_strOf, B_toList]
    exact beq_eq_false_iff_ne.2 h1
  intro rest
  induction rest with
  | nil =>
    intro pre F f m v hp hF hm hv
    obtain ⟨G, rfl⟩ : ∃ G, F = G + 1 := ⟨F - 1, by simp at hF; omega⟩
    have hlen : l.length = pre.length := by rw [← hp]; simp
    simp only [spec_ParseTerm_l0, spec_ParseTerm_l0b, scn, B_size]
    rw [decide_eq_false (by omega), cond_false]
    rfl
  | cons b rest ih =>
    intro pre F f m v hp hF hm hv
    simp only [List.length_cons] at hF
    obtain ⟨G, rfl⟩ : ∃ G, F = G + 1 := ⟨F - 1, by omega⟩
    have hlen : l.length = pre.length + (rest.length + 1) := by rw [← hp]; simp
    have hbt : bt (B l) (pre.length : Int) = (b.toNat : Int) := by rw [← hp]; exact bt_mid pre rest b
    have hb := b.toNat_lt
    have next := fun f m v hm hv => ih (pre ++ [b]) G f m v (by rw [← hp]; simp) (by omega) hm hv
    simp only [List.length_append, List.length_cons, List.length_nil, Nat.zero_add] at next
    have hg : good n (b :: rest) = (goodB n b && good n rest) := rfl
    simp only [spec_ParseTerm_l0, spec_ParseTerm_l0b, hbt, B_size, eq33, h49, spec_l1In_eq]
    rw [decide_eq_true (by omega : (pre.length : Int) < (l.length : Int)), cond_true, Bool.not_false, cond_true, gd_true (decide_eq_true (by omega)), gd_true rfl, w64_succ _ (by omega), hg]
    unfold scn
    by_cases h33 : b.toNat = 33
    · have hgb : goodB n b = true := by unfold goodB; rw [h33]; rfl
      rw [decide_eq_true h33, cond_true, if_pos h33, hgb, Bool.true_and]
      exact next true m v hm hv
    · rw [decide_eq_false h33, cond_false, if_neg h33, gd_true (decide_eq_true (by omega)), gd_true rfl, decide_eq_true (by omega : (0 : Int) ≤ (n : Int)), decide_eq_true (by omega : (n : Int) ≤ 5), Bool.and_self, Bool.not_true, cond_false, w64_id (x := (b.toNat : Int)) (by omega) (by omega), w64_id (by omega) (by omega), w64_id (by omega) (by omega)]
      have hne : Nat.beq b.toNat 33 = false := by
        cases hq : Nat.beq b.toNat 33 with
        | false => rfl
        | true => exact absurd (Nat.eq_of_beq_eq_true hq) h33
      unfold goodB
      rw [hne, Bool.false_or]
      by_cases h97 : 97 ≤ b.toNat
      · rw [decide_eq_true (by omega : (0 : Int) ≤ (b.toNat : Int) - 97), decide_eq_true h97, Bool.true_and, Bool.true_and]
        by_cases h102 : b.toNat < 97 + n
        · have hp5 := pow5 (k := b.toNat - 97) (by omega)
          rw [decide_eq_true (by omega : (b.toNat : Int) - 97 ≤ (n : Int) - 1), decide_eq_true h102, Bool.not_true, cond_false, Bool.true_and, gd_true rfl, if_pos ⟨h97, by omega⟩, show (b.toNat : Int) - 97 = ((b.toNat - 97 : Nat) : Int) by omega, shl_one _ (by omega), bOr m _ (by omega) (by omega)]
          cases f with
          | false =>
            rw [Bool.not_false, cond_true, gd_true rfl, bOr v _ (by omega) (by omega)]
            exact next false _ _ (or5 hm hp5) (or5 hv hp5)
          | true =>
            rw [Bool.not_true, cond_false]
            exact next false _ _ (or5 hm hp5) hv
        · rw [decide_eq_false (by omega : ¬ (b.toNat : Int) - 97 ≤ (n : Int) - 1), decide_eq_false h102]
          rfl
      · rw [decide_eq_false (by omega : ¬ (0 : Int) ≤ (b.toNat : Int) - 97), decide_eq_false h97]
        rfl

/-- A term read. -/
def pt (n : Nat) (l : List UInt8) : Option (Nat × Nat) :=
  if l = [49] then some (0, 0) else if l = [] then none else if ftb n (scn l false 0 0).1 (scn l false 0 0).2 = l then some (scn l false 0 0) else none
def ptK (o : Option (Nat × Nat)) (K : Int → Int → Bool → Option β) : Option β := match o with
  | some p => K (p.1 : Int) (p.2 : Int) true
  | none => K 0 0 false
theorem ftb_one (n : Nat) (hn : n ≤ 5) : ftb n 0 0 = [49] := by
  have : ∀ n, n ≤ 5 → ftb n 0 0 = [49] := by decide +kernel
  exact this n hn
theorem pt_ok {n : Nat} {l : List UInt8} {p : Nat × Nat} (hn : n ≤ 5) (h : pt n l = some p) : okT n p.1 p.2 = true ∧ p.1 < 32 ∧ p.2 < 32 := by
  unfold pt at h
  split at h
  · cases h
    have : ∀ n, n ≤ 5 → okT n 0 0 = true := by decide +kernel
    exact ⟨this n hn, by decide, by decide⟩
  · split at h
    · cases h
    · split at h
      · rename_i h1 h2 h3
        cases h
        refine ⟨?_, scn_lt _ _ _ _ (by decide) (by decide)⟩
        cases hok : okT n (scn l false 0 0).1 (scn l false 0 0).2 with
        | true => rfl
        | false =>
          unfold ftb at h3
          rw [hok, cond_false] at h3
          exact absurd h3.symm h2
      · cases h
theorem impl_ParseTerm_n (N : Nat) (hN : 1048576 < N) (n : Nat) (hn : n ≤ 5) (l : List UInt8) (hl : l.length ≤ 1000) (K : Int → Int → Bool → Option β) : impl_ParseTerm N (n : Int) (B l) K = ptK (pt n l) K := by
  unfold impl_ParseTerm pt
  rw [B_toList, B_strOf, B_toList, B_size]
  have he : ByteArray.empty.toList = ([] : List UInt8) := B_toList []
  by_cases h1 : l = [49]
  · subst h1
    have e := fun K => impl_FormatTerm_n (β := β) N hN n 0 0 hn (by decide) (by decide) K
    simp only [Int.natCast_zero, ftb_one n hn] at e
    rw [if_pos rfl, e, he, B_toList]
    rfl
  · obtain ⟨s1, s2⟩ := scn_lt l false 0 0 (by decide) (by decide)
    have hs := impl_scan (β := β) N n l hl (fun e0 e1 e2 e3 e4 e5 => cond (e1.toList == ByteArray.empty.toList) (K 0 0 false) (impl_FormatTerm N e0 e4 e5 fun r7 => cond (!(r7.toList == e1.toList)) (K 0 0 false) (K e4 e5 true))) l [] N false 0 0 rfl (by omega) (by decide) (by decide)
    have hne : (l == List.map (fun n : Int => UInt8.ofNat n.toNat) [49]) = false := beq_eq_false_iff_ne.2 h1
    rw [hne, Bool.not_false, cond_true, if_neg h1]
    refine hs.trans ?_
    rw [B_toList, he, impl_FormatTerm_n N hN n _ _ hn s1 s2, B_toList]
    by_cases h0 : l = []
    · subst h0; rfl
    · rw [beq_eq_false_iff_ne.2 h0, cond_false, if_neg h0]
      by_cases h2 : ftb n (scn l false 0 0).1 (scn l false 0 0).2 = l
      · rw [if_pos h2, beq_iff_eq.2 h2]; rfl
      · rw [if_neg h2, beq_eq_false_iff_ne.2 h2]; rfl
theorem spec_ParseTerm_n (N : Nat) (hN : 1048576 < N) (n : Nat) (hn : n ≤ 5) (l : List UInt8) (hl : l.length ≤ 1000) (K : Int → Int → Bool → Option β) : spec_ParseTerm N (n : Int) (B l) K = ptK (pt n l) K := by
  unfold spec_ParseTerm pt
  have he : ByteArray.empty.toList = ([] : List UInt8) := B_toList []
  by_cases h1 : l = [49]
  · subst h1
    have e := fun K => spec_FormatTerm_n (β := β) N hN n 0 0 hn (by decide) (by decide) K
    simp only [Int.natCast_zero, ftb_one n hn] at e
    rw [if_pos rfl]
    obtain ⟨G, rfl⟩ : ∃ G, N = G + 1 := ⟨N - 1, by omega⟩
    simp only [spec_ParseTerm_l0, spec_ParseTerm_l0b]
    rw [e, he, B_toList, B_strOf, B_toList]
    rfl
  · obtain ⟨s1, s2⟩ := scn_lt l false 0 0 (by decide) (by decide)
    have hs := spec_scan (β := β) N n hn l hl h1 (fun e0 e1 e2 => K e1 e2 e0) (fun e0 e1 e2 e3 e4 e5 => cond (e1.toList == ByteArray.empty.toList) (K 0 0 false) (spec_FormatTerm N e0 e4 e5 fun r9 => cond (!(r9.toList == e1.toList)) (K 0 0 false) (K e4 e5 true))) l [] N false 0 0 rfl (by omega) (by decide) (by decide)
    rw [if_neg h1]
    refine hs.trans ?_
    rw [B_toList, he, spec_FormatTerm_n N hN n _ _ hn s1 s2, B_toList]
    by_cases h0 : l = []
    · subst h0; rfl
    · rw [beq_eq_false_iff_ne.2 h0, cond_false, if_neg h0]
      by_cases h2 : ftb n (scn l false 0 0).1 (scn l false 0 0).2 = l
      · have hg : good n l = true := by
          unfold ftb at h2
          cases hok : okT n (scn l false 0 0).1 (scn l false 0 0).2 with
          | false => rw [hok, cond_false] at h2; exact absurd h2.symm h0
          | true =>
            rw [hok, cond_true] at h2
            cases hf : (ft (scn l false 0 0).1 (scn l false 0 0).2 n == []) with
            | true => rw [hf, cond_true] at h2; exact absurd h2.symm h1
            | false =>
              rw [hf, cond_false] at h2
              rw [← h2]
              exact ft_good n _ _ hn n (Nat.le_refl _)
        rw [if_pos h2, beq_iff_eq.2 h2, hg]; rfl
      · rw [if_neg h2, beq_eq_false_iff_ne.2 h2]
        cases good n l <;> rfl
end Go.Proofs.YtfdggelojmofmaaDoor
