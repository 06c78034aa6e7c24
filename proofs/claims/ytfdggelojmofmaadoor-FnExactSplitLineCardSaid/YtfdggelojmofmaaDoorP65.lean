/- Plain laws of the texts: the rows of a table, their rank, how many there are. -/
import Derived.Test.YtfdggelojmofmaaDoorP92
namespace Go.Proofs.YtfdggelojmofmaaDoor
open Go.Rv
set_option linter.unusedVariables false
variable {β : Type}
/-! ### Rows -/
set_option synthInstance.maxHeartbeats 1000000 in
set_option synthInstance.maxSize 2000 in
theorem parts4 : ∀ k, k ≤ 4 → ∀ j, j ≤ 4 - k → ∀ r, r < 2 ^ k → ∀ c, c < 2 ^ j → (r ||| c * 2 ^ k) < 2 ^ (k + j) ∧ (r ||| c * 2 ^ k) % 2 ^ k = r ∧ (r ||| c * 2 ^ k) / 2 ^ k = c := by decide +kernel
theorem whole4 : ∀ k, k ≤ 4 → ∀ x, x < 16 → (x % 2 ^ k ||| x / 2 ^ k * 2 ^ k) = x := by decide +kernel
/-- The rows of a table as numbers. -/
def rowsN (W k q a : Nat) : List Nat := (List.range a).map fun r => mrow W k q r
theorem rows_li (W k q a : Nat) : rows W k q a = li (rowsN W k q a) := by simp [rows, rowsN, li]
theorem rowsN_len (W k q a : Nat) : (rowsN W k q a).length = a := by simp [rowsN]
theorem rowsN_lt (W k q a : Nat) (hq : q ≤ 16) : ∀ r ∈ rowsN W k q a, r < 65536 := fun r hr => by
  obtain ⟨i, _, rfl⟩ := List.mem_map.1 hr
  exact Nat.lt_of_lt_of_le (tabw_lt _ _) (Nat.pow_le_pow_right (by decide) hq : 2 ^ q ≤ 2 ^ 16)

set_option synthInstance.maxHeartbeats 1000000 in
set_option synthInstance.maxSize 2000 in
theorem parts5 : ∀ k, k ≤ 5 → ∀ j, j ≤ 5 - k → ∀ r, r < 2 ^ k → ∀ c, c < 2 ^ j → (r ||| c * 2 ^ k) < 2 ^ (k + j) ∧ (r ||| c * 2 ^ k) % 2 ^ k = r ∧ (r ||| c * 2 ^ k) / 2 ^ k = c := by decide +kernel
theorem spec_row (N : Nat) (hN : 64 < N) (n W k a : Nat) (hn : n ≤ 5) (hkn : k ≤ n) (hw : W < 4294967296) (ha : a < 2 ^ k) (out : List Int) (K : Int → Int → Int → Int → Int → List Int → Option β) :
    zj4 N N (k : Int) (a : Int) 0 0 (n : Int) (W : Int) out K = K k a (mrow W k (2 ^ (n - k)) a : Int) n W out := by
  have h4 : 2 ^ (n - k) ≤ 32 := size_le (by omega)
  have hz : (0 : Int) ≤ ((2 ^ (n - k) : Nat) : Int) := Int.natCast_nonneg _
  refine loop_st (fun F b => zj4 N F (k : Int) (a : Int) (tabw (fun c => W.testBit (a ||| c * 2 ^ k)) b : Int) (b : Int) (n : Int) (W : Int) out K) (2 ^ (n - k)) _ (fun F b hb => ?_) (fun F => ?_) N 0 (by omega) (by omega)
  · have hsp := parts5 k (by omega) (n - k) (by omega) a ha b hb
    have hn4 : 2 ^ (k + (n - k)) ≤ 2 ^ 5 := Nat.pow_le_pow_right (by decide) (by omega)
    have hbk : b * 2 ^ k < 1024 := Nat.lt_of_lt_of_le (Nat.mul_lt_mul_of_lt_of_le (by omega : b < 32) (size_le (by omega : k ≤ 5)) (by decide)) (by decide)
    have h4k : 2 ^ k ≤ 32 := size_le (by omega)
    have hlt := tabw_lt (fun c => W.testBit (a ||| c * 2 ^ k)) b
    have hb2 : 2 ^ b ≤ 2 ^ 32 := Nat.pow_le_pow_right (by decide) (by omega)
    simp only [zj4, zj3]
    rw [show ((n : Int) - (k : Int)) = ((n - k : Nat) : Int) by omega, w64_nat _ (by omega), gd_true (decide_eq_true (by omega : (0 : Int) ≤ ((n - k : Nat) : Int))), shl_one _ (by omega), decide_eq_true (by omega : (b : Int) < ((2 ^ (n - k) : Nat) : Int)), cond_true,
      gd_true (decide_eq_true (by omega : (0 : Int) ≤ (k : Int))), shl_nat b k (by omega) (by omega), bOr a _ (by omega) (by omega), gd_true (decide_eq_true (by omega : (0 : Int) ≤ ((a ||| b * 2 ^ k : Nat) : Int))), gd_true (decide_eq_true (by omega : (0 : Int) ≤ (b : Int))), bit_at W _ (by omega), w64_succ b (by omega)]
    have e : bits .or .i64 ((tabw (fun c => W.testBit (a ||| c * 2 ^ k)) b : Nat) : Int) (shlI .i64 ((if W.testBit (a ||| b * 2 ^ k) then 1 else 0 : Nat) : Int) (b : Int)) = ((tabw (fun c => W.testBit (a ||| c * 2 ^ k)) (b + 1) : Nat) : Int) := by
      have hp := Nat.two_pow_pos b
      have hb3 : 2 ^ b < 4294967296 := Nat.lt_of_lt_of_le (Nat.pow_lt_pow_right (by decide) (by omega : b < 32)) (by decide)
      cases hbit : W.testBit (a ||| b * 2 ^ k) with
      | true =>
        rw [if_pos rfl, show ((1 : Nat) : Int) = 1 from rfl, shl_one b (by omega), bOr _ _ (by omega) (by omega)]
        simp [tabw, hbit]
      | false =>
        rw [if_neg (by decide), shl_nat 0 b (by omega) (by omega), bOr _ _ (by omega) (by omega)]
        simp [tabw, hbit]
    rw [e]
  · simp only [zj4, zj3]
    rw [show ((n : Int) - (k : Int)) = ((n - k : Nat) : Int) by omega, w64_nat _ (by omega), gd_true (decide_eq_true (by omega : (0 : Int) ≤ ((n - k : Nat) : Int))), shl_one _ (by omega), decide_eq_false (by omega), cond_false]
    rfl
theorem spec_MatrixOf_n (N : Nat) (hN : 64 < N) (n W k : Nat) (hn : n ≤ 5) (hkn : k ≤ n) (hW : W < 2 ^ 2 ^ n) (K : List Int → Bool → Option β) :
    zj7 N (n : Int) (W : Int) (k : Int) K = K (rows W k (2 ^ (n - k)) (2 ^ k)) true := by
  have hw := two32 (by omega) hW
  have h4 : 2 ^ k ≤ 32 := size_le (by omega)
  have hz : (0 : Int) ≤ ((2 ^ k : Nat) : Int) := Int.natCast_nonneg _
  unfold zj7
  simp only [spec_IsTable_eq, isTn (by omega : n ≤ 5) hW, spec_l1In_eq]
  rw [decide_eq_true (by omega : (0 : Int) ≤ (k : Int)), decide_eq_true (by omega : (k : Int) ≤ (n : Int))]
  simp only [Bool.and_self, Bool.not_true, cond_false]
  refine loop_st (fun F a => zj6 N F (k : Int) (a : Int) (n : Int) (W : Int) (rows W k (2 ^ (n - k)) a) fun e => K e true) (2 ^ k) _ (fun F a ha => ?_) (fun F => ?_) N 0 (by omega) (by omega)
  · simp only [zj6, zj5]
    have hl := rows_len W k (2 ^ (n - k)) a
    rw [gd_true (decide_eq_true (by omega)), shl_one k (by omega), decide_eq_true (by omega), cond_true, spec_row N hN n W k a hn hkn hw ha, gd_true (decide_eq_true (by rw [hl]; simp only [List.nil_append, List.length_cons, List.length_nil]; omega)), w64_succ a (by omega), List.nil_append, ← rows_succ]
  · simp only [zj6, zj5]
    rw [gd_true (decide_eq_true (by omega)), shl_one k (by omega), decide_eq_false (by omega), cond_false]

/-- The rows, with the values of the first inputs. -/
def rowX (W k q x r : Nat) : Nat := tabw (fun c => decide ((r ||| c * 2 ^ k) < x) && W.testBit (r ||| c * 2 ^ k)) q
def rowsX (W k q a x : Nat) : List Int := (List.range a).map fun r => ((rowX W k q x r : Nat) : Int)
theorem rowX_step (W n k x r : Nat) (hn : n ≤ 4) (hkn : k ≤ n) (hx : x < 2 ^ n) (hr : r < 2 ^ k) :
    rowX W k (2 ^ (n - k)) (x + 1) r = if r = x % 2 ^ k then rowX W k (2 ^ (n - k)) x r ||| (bw W x * 2 ^ (x / 2 ^ k)) else rowX W k (2 ^ (n - k)) x r := by
  have hp := Nat.two_pow_pos k
  have hx16 : x < 16 := Nat.lt_of_lt_of_le hx (sz4 hn)
  have hwh := whole4 k (by omega) x hx16
  have hc : x / 2 ^ k < 2 ^ (n - k) := by
    rw [Nat.div_lt_iff_lt_mul hp, ← Nat.pow_add, Nat.sub_add_cancel hkn]; exact hx
  have key : ∀ j, j < 2 ^ (n - k) → (r ||| j * 2 ^ k = x ↔ r = x % 2 ^ k ∧ j = x / 2 ^ k) := fun j hj => by
    obtain ⟨_, h2, h3⟩ := parts4 k (by omega) (n - k) (by omega) r hr j hj
    constructor
    · intro h; rw [h] at h2 h3; exact ⟨h2.symm, h3.symm⟩
    · rintro ⟨h4, h5⟩; rw [h4, h5]; exact hwh
  by_cases hrx : r = x % 2 ^ k
  · rw [if_pos hrx]
    refine Nat.eq_of_testBit_eq fun j => ?_
    rw [Nat.testBit_or]
    unfold rowX
    rw [tabw_bit, tabw_bit]
    by_cases hj : j < 2 ^ (n - k)
    · have hk := key j hj
      simp only [decide_eq_true hj, Bool.true_and]
      by_cases he : r ||| j * 2 ^ k = x
      · have hj2 := (hk.1 he).2
        rw [he, decide_eq_true (by omega : x < x + 1), decide_eq_false (by omega : ¬ x < x), hj2]
        unfold bw
        cases W.testBit x <;> simp
      · have : j ≠ x / 2 ^ k := fun e => he (hk.2 ⟨hrx, e⟩)
        rw [show decide ((r ||| j * 2 ^ k) < x + 1) = decide ((r ||| j * 2 ^ k) < x) from decide_eq_decide.2 (by omega)]
        have e2 : (bw W x * 2 ^ (x / 2 ^ k)).testBit j = false := by
          unfold bw
          cases W.testBit x with
          | true => rw [if_pos rfl, Nat.one_mul, Nat.testBit_two_pow]; exact decide_eq_false (fun e => this e.symm)
          | false => rw [if_neg (by decide), Nat.zero_mul, Nat.zero_testBit]
        rw [e2, Bool.or_false]
    · have e2 : (bw W x * 2 ^ (x / 2 ^ k)).testBit j = false := by
        unfold bw
        cases W.testBit x with
        | true => rw [if_pos rfl, Nat.one_mul, Nat.testBit_two_pow]; exact decide_eq_false (by omega)
        | false => rw [if_neg (by decide), Nat.zero_mul, Nat.zero_testBit]
      rw [decide_eq_false hj, Bool.false_and, Bool.false_and, e2]
      rfl
  · rw [if_neg hrx]
    refine tabw_congr fun j hj => ?_
    have hk := key j hj
    have he : (r ||| j * 2 ^ k) ≠ x := fun e => hrx (hk.1 e).1
    rw [show decide ((r ||| j * 2 ^ k) < x + 1) = decide ((r ||| j * 2 ^ k) < x) from decide_eq_decide.2 (by omega)]
theorem rowX_lt (W n k x r : Nat) (hn : n ≤ 4) : rowX W k (2 ^ (n - k)) x r < 65536 :=
  Nat.lt_of_lt_of_le (tabw_lt _ _) (Nat.pow_le_pow_right (by decide) (sz4 (by omega : n - k ≤ 4)) : 2 ^ 2 ^ (n - k) ≤ 2 ^ 16)
theorem rowsX_rd (W k q a x i : Nat) (h : i < a) : rd 0 (rowsX W k q a x) (i : Int) = ((rowX W k q x i : Nat) : Int) := by
  rw [rd_nat 0 _ i (by simp [rowsX]; exact h)]
  simp [rowsX]
theorem impl_rows_n (N : Nat) (hN : 64 < N) (n W k : Nat) (hn : n ≤ 4) (hkn : k ≤ n) (hW : W < 2 ^ 2 ^ n) (K : List Int → Option β) :
    zj66 N (n : Int) (W : Int) (k : Int) K = K (rows W k (2 ^ (n - k)) (2 ^ k)) := by
  have hw := two32 (by omega) hW
  have hs := sz4 hn
  have h4 : 2 ^ k ≤ 16 := sz4 (by omega)
  have hp := Nat.two_pow_pos k
  have hz : (0 : Int) ≤ ((2 ^ k : Nat) : Int) := Int.natCast_nonneg _
  have hz2 : (0 : Int) ≤ ((2 ^ n : Nat) : Int) := Int.natCast_nonneg _
  unfold zj66
  rw [gd_true (decide_eq_true (by omega)), shl_one k (by omega), gd_true (decide_eq_true (by omega)), gd_true (decide_eq_true (by omega)), gd_true (decide_eq_true (by omega)), impl_Table_size_eq N n _ (by omega), Int.toNat_natCast]
  have e0 : List.replicate (2 ^ k) (0 : Int) = rowsX W k (2 ^ (n - k)) (2 ^ k) 0 := by
    refine (List.eq_replicate_iff.2 ⟨by simp [rowsX], fun b hb => ?_⟩).symm
    obtain ⟨r, _, rfl⟩ := List.mem_map.1 hb
    have : rowX W k (2 ^ (n - k)) 0 r = 0 := Nat.eq_of_testBit_eq fun j => by unfold rowX; rw [tabw_bit]; simp
    rw [this]; rfl
  have e1 : rowsX W k (2 ^ (n - k)) (2 ^ k) (2 ^ n) = rows W k (2 ^ (n - k)) (2 ^ k) := by
    refine List.map_congr_left fun r hr => ?_
    have hr := List.mem_range.1 hr
    congr 1
    refine tabw_congr fun j hj => ?_
    have h1 := (parts4 k (by omega) (n - k) (by omega) r hr j hj).1
    rw [show k + (n - k) = n by omega] at h1
    rw [decide_eq_true h1, Bool.true_and]
  rw [e0, ← e1]
  refine loop_st (fun F x => zj65 N F (k : Int) ((2 ^ n : Nat) : Int) (x : Int) (n : Int) (W : Int) (rowsX W k (2 ^ (n - k)) (2 ^ k) x) fun e => K e) (2 ^ n) _ (fun F x hx => ?_) (fun F => ?_) N 0 (by omega) (by omega)
  · have hr : x % 2 ^ k < 2 ^ k := Nat.mod_lt _ hp
    have hd : x / 2 ^ k < 16 := Nat.lt_of_le_of_lt (Nat.div_le_self _ _) (by omega)
    have hl : (rowsX W k (2 ^ (n - k)) (2 ^ k) x).length = 2 ^ k := by simp [rowsX]
    have hlt := rowX_lt W n k x (x % 2 ^ k) hn
    simp only [zj65, zj64]
    rw [mask_eq x k (by omega) (by omega), hl, decide_eq_true (by omega : (x : Int) < ((2 ^ n : Nat) : Int)), decide_eq_true (by omega : (0 : Int) ≤ (k : Int)), decide_eq_true (by omega : (0 : Int) ≤ ((x % 2 ^ k : Nat) : Int)), decide_eq_true (by omega : ((x % 2 ^ k : Nat) : Int) < ((2 ^ k : Nat) : Int))]
    simp only [gd, cond_true]
    rw [impl_Table_at_eq N W x _ hw, shr_nat x k (by omega), decide_eq_true (Int.natCast_nonneg _), cond_true, rowsX_rd _ _ _ _ _ _ hr, w64_succ x (by omega)]
    have hb := bw_le W x
    have hpow : 2 ^ (x / 2 ^ k) < 65536 := Nat.lt_of_lt_of_le (Nat.pow_lt_pow_right (by decide) hd) (by decide)
    have hmul : bw W x * 2 ^ (x / 2 ^ k) < 65536 := by
      unfold bw; split
      · rw [Nat.one_mul]; exact hpow
      · rw [Nat.zero_mul]; decide
    rw [shl_nat (bw W x) (x / 2 ^ k) (by omega) (by omega), bOr _ _ (by omega) (by omega)]
    congr 1
    refine List.ext_getElem (by simp [wr, rowsX]) fun i h1 h2 => ?_
    have hi : i < 2 ^ k := by simpa [rowsX] using h2
    simp only [wr, rowsX, Int.toNat_natCast, List.getElem_set, List.getElem_map, List.getElem_range]
    rw [rowX_step W n k x i hn hkn hx hi]
    by_cases he : x % 2 ^ k = i
    · rw [if_pos he, if_pos he.symm, he]
    · rw [if_neg he, if_neg (fun e => he e.symm)]
  · simp only [zj65, zj64]
    rw [decide_eq_false (by omega), cond_false]

/-! ### How many rows differ -/
def dcn : List Nat → List Nat → Nat
  | _, [] => 0
  | done, r :: rest => (if done.contains r then 0 else 1) + dcn (done ++ [r]) rest
theorem dcn_le : ∀ rest done, dcn done rest ≤ rest.length
  | [], _ => Nat.le_refl _
  | r :: rest, done => by
    have := dcn_le rest (done ++ [r])
    simp only [dcn, List.length_cons]
    split <;> omega
theorem allF_ne (L : List Nat) (i : Nat) (hi : i ≤ L.length) (x : Nat) : allF (fun j => L.getD j 0 != x) i 0 = !(L.take i).contains x := by
  have h := allF_all (L.take i) (fun y => y != x) i 0 (by rw [List.length_take]; omega)
  rw [List.drop_zero] at h
  rw [allF_congr (q := fun j => (fun y => y != x) ((L.take i).getD j 0)) (fun j _ hj => ?_), h]
  · induction L.take i with
    | nil => rfl
    | cons y l ih =>
      rw [List.all_cons, List.contains_cons, ih, Bool.not_or]
      congr 1
      unfold bne
      congr 1
      rw [Bool.eq_iff_iff, beq_iff_eq, beq_iff_eq]; exact eq_comm
  · simp only [List.getD_eq_getElem?_getD, List.getElem?_take]
    rw [if_pos (by omega)]
theorem take_snoc (L : List Nat) (i : Nat) (hi : i < L.length) : L.take (i + 1) = L.take i ++ [L.getD i 0] := by
  rw [List.take_succ_eq_append_getElem hi, List.getD_eq_getElem?_getD, List.getElem?_eq_getElem hi]
  rfl
theorem drop_cons' (L : List Nat) (i : Nat) (hi : i < L.length) : L.drop i = L.getD i 0 :: L.drop (i + 1) := by
  rw [List.drop_eq_getElem_cons hi, List.getD_eq_getElem?_getD, List.getElem?_eq_getElem hi]
  rfl
theorem spec_DifferentRows_n (N : Nat) (hN : 64 < N) (L : List Nat) (hL : L.length ≤ 16) (K : Int → Option β) : zj34 N (li L) K = K (dcn [] L : Int) := by
  have ev : ∀ a b : Nat, (((a : Nat) : Int) != (b : Int)) = (a != b) := fun a b => by unfold bne; congr 1; rw [Bool.eq_iff_iff, beq_iff_eq, beq_iff_eq]; exact Int.ofNat_inj
  have inner : ∀ (i : Nat), i < L.length → ∀ (c : Int) (K0 : List Int → Int → Int → Bool → Option β), zj31 N N (li L) c (i : Int) true 0 K0 = K0 (li L) c i (allF (fun j => L.getD j 0 != L.getD i 0) i 0) := fun i hi c K0 => by
    refine loop_st (fun F j => zj31 N F (li L) c (i : Int) (allF (fun j => L.getD j 0 != L.getD i 0) j 0) (j : Int) K0) i _ (fun F j hj => ?_) (fun F => ?_) N 0 (by omega) (by omega)
    · simp only [zj31, zj30, li_len, li_rd]
      rw [decide_eq_true (by omega : (j : Int) < (i : Int)), decide_eq_true (by omega : (0 : Int) ≤ (j : Int)), decide_eq_true (by omega : (j : Int) < (L.length : Int)), decide_eq_true (by omega : (0 : Int) ≤ (i : Int)), decide_eq_true (by omega : (i : Int) < (L.length : Int)), w64_succ j (by omega), ev, allF_snoc, Nat.zero_add]
      cases allF (fun j => L.getD j 0 != L.getD i 0) j 0 with
      | true => rw [Bool.true_and]; rfl
      | false => rw [Bool.false_and]; rfl
    · simp only [zj31, zj30]
      rw [decide_eq_false (by omega), cond_false]
  unfold zj34
  have main : ∀ (d F i c : Nat), i + d = L.length → d < F → c ≤ i → zj33 N F (li L) (c : Int) (i : Int) (fun e => K e) = K ((c + dcn (L.take i) (L.drop i) : Nat) : Int) := by
    intro d
    induction d with
    | zero =>
      intro F i c hi hF _
      obtain ⟨G, rfl⟩ : ∃ G, F = G + 1 := ⟨F - 1, by omega⟩
      simp only [zj33, zj32, li_len]
      rw [decide_eq_false (by omega), cond_false, List.drop_eq_nil_of_le (by omega)]
      rfl
    | succ d ih =>
      intro F i c hi hF hc
      obtain ⟨G, rfl⟩ : ∃ G, F = G + 1 := ⟨F - 1, by omega⟩
      have hil : i < L.length := by omega
      simp only [zj33, zj32, li_len]
      rw [decide_eq_true (by omega), cond_true, inner i hil, allF_ne L i (by omega), w64_succ i (by omega), w64_succ c (by omega), drop_cons' L i hil, dcn, ← take_snoc L i hil]
      cases (L.take i).contains (L.getD i 0) with
      | true =>
        rw [Bool.not_true, cond_false, if_pos rfl, ih G (i + 1) c (by omega) (by omega) (by omega), Nat.zero_add]
      | false =>
        rw [Bool.not_false, cond_true, if_neg (by decide), ih G (i + 1) (c + 1) (by omega) (by omega) (by omega), Nat.add_assoc]
  have := main L.length N 0 0 (by omega) (by omega) (Nat.le_refl _)
  simpa using this

/-- A map of these keys. -/
def keysM (l : List Nat) : Mp := l.map fun x : Nat => (((x : Int), (0 : Int)), (1 : Int))
theorem put_keys : ∀ (l : List Nat) (x : Nat), putM ⟨false, true⟩ (keysM l) (x : Int) 0 1 = keysM (if l.contains x then l else l ++ [x])
  | [], x => rfl
  | y :: l, x => by
    simp only [keysM, List.map_cons, putM, eqK, Bool.not_false, Bool.true_or, Bool.and_true]
    have ih := put_keys l x
    unfold keysM at ih
    rw [ih, List.contains_cons]
    by_cases h : y = x
    · subst h
      simp
    · have h1 : ((y : Int) == (x : Int)) = false := beq_eq_false_iff_ne.2 (fun e => h (Int.ofNat_inj.1 e))
      have h2 : (x == y) = false := beq_eq_false_iff_ne.2 (fun e => h e.symm)
      rw [h1, h2, Bool.false_or]
      cases l.contains x <;> rfl
theorem impl_DifferentRows_n (N : Nat) (hN : 64 < N) (L : List Nat) (hL : L.length ≤ 16) (K : Int → Option β) : zj94 N (li L) K = K (dcn [] L : Int) := by
  unfold zj94
  have main : ∀ (d F i : Nat) (ks : List Nat), i + d = L.length → d < F → (∀ x, ks.contains x = (L.take i).contains x) →
      zj93 N F (li L) ((li L).length : Int) (i : Int) (keysM ks) (fun e => K (e.length : Int)) = K ((ks.length + dcn (L.take i) (L.drop i) : Nat) : Int) := by
    intro d
    induction d with
    | zero =>
      intro F i ks hi hF _
      obtain ⟨G, rfl⟩ : ∃ G, F = G + 1 := ⟨F - 1, by omega⟩
      simp only [zj93, zj92, li_len]
      rw [decide_eq_false (by omega), cond_false, List.drop_eq_nil_of_le (by omega)]
      simp [keysM, dcn]
    | succ d ih =>
      intro F i ks hi hF hk
      obtain ⟨G, rfl⟩ : ∃ G, F = G + 1 := ⟨F - 1, by omega⟩
      have hil : i < L.length := by omega
      have ih := ih G (i + 1) (if ks.contains (L.getD i 0) then ks else ks ++ [L.getD i 0]) (by omega) (by omega) (fun x => ?_)
      · simp only [li_len] at ih
        simp only [zj93, zj92, li_len, li_rd]
        rw [decide_eq_true (by omega : (i : Int) < (L.length : Int)), decide_eq_true (by omega : (0 : Int) ≤ (i : Int)), w64_succ i (by omega)]
        simp only [cond_true, gd]
        rw [put_keys, ih, drop_cons' L i hil, dcn, ← take_snoc L i hil, ← hk]
        cases ks.contains (L.getD i 0) with
        | true => rw [if_pos rfl, if_pos rfl, Nat.zero_add]
        | false =>
          rw [if_neg (by decide), if_neg (by decide), List.length_append]
          simp only [List.length_cons, List.length_nil]
          congr 2
          omega
      · rw [take_snoc L i hil]
        have h1 := hk x
        have h2 := hk (L.getD i 0)
        cases hc : ks.contains (L.getD i 0) with
        | true =>
          rw [if_pos rfl]
          rw [h1]
          have h3 : (L.take i ++ [L.getD i 0]).contains x = ((L.take i).contains x || (x == L.getD i 0)) := by
            rw [List.contains_append, List.contains_cons, List.contains_nil, Bool.or_false]
          rw [h3]
          cases hx : x == L.getD i 0 with
          | false => rw [Bool.or_false]
          | true =>
            rw [eq_of_beq hx, ← h2, hc]
            rfl
        | false =>
          rw [if_neg (by decide)]
          simp only [List.contains_append, h1]
  have := main L.length N 0 [] (by omega) (by omega) (fun x => rfl)
  simpa [keysM] using this
end Go.Proofs.YtfdggelojmofmaaDoor
