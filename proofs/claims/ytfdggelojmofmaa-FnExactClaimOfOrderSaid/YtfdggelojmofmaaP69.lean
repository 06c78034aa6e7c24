/- Plain laws of the texts: diagrams, made by both texts. -/
import Derived.Test.YtfdggelojmofmaaP92
namespace Go.Proofs.Ytfdggelojmofmaa
open Go.Rv
set_option linter.unusedVariables false
variable {β : Type}
abbrev T3 := List (Int × Int × Int)
theorem spec_l19Word_eq (N : Nat) (hN : 64 < N) (n W m v : Nat) (hn : n ≤ 4) (hW : W < 2 ^ 2 ^ n) (hm : m < 2 ^ n) (hv : v < 2 ^ n) (hvm : v &&& m = v) (K : Int → Option β) :
    spec_l19Word N (n : Int) (W : Int) (m : Int) (v : Int) K = K (wd W n m v : Int) := by
  have hs := sz4 hn
  have hW' := two32 (by omega) hW
  have hz : (0 : Int) ≤ ((2 ^ n : Nat) : Int) := Int.natCast_nonneg _
  unfold spec_l19Word
  refine loop_st (fun F x => spec_l19Word_l0 N F (m : Int) (v : Int) (tabw (fun x => W.testBit (fx x m v)) x : Int) (x : Int) (n : Int) (W : Int) fun e => K e) (2 ^ n) _ (fun F x hx => ?_) (fun F => ?_) N 0 (by omega) (by omega)
  · simp only [spec_l19Word_l0, spec_l19Word_l0b]
    obtain ⟨h1, h2⟩ := fx_sum m (by omega) v (by omega) hvm x (by omega)
    have h3 : fx x m v < 2 ^ n := fx_lt hx hv
    have hlt := tabw_lt (fun x => W.testBit (fx x m v)) x
    have hp : 2 ^ x < 65536 := Nat.lt_of_lt_of_le (Nat.pow_lt_pow_right (by decide) (by omega : x < 16)) (by decide)
    have e1 : w64 (w64 ((x : Int) - bits .and .i64 (x : Int) (m : Int)) + (v : Int)) = (fx x m v : Int) := by
      rw [bAnd x m (by omega) (by omega), w64_id (x := (x : Int) - ((x &&& m : Nat) : Int)) (by omega) (by omega), w64_id (by omega) (by omega)]
      omega
    rw [gd_true (decide_eq_true (by omega)), shl_one n (by omega), decide_eq_true (by omega), cond_true, e1, gd_true (decide_eq_true (Int.natCast_nonneg _)), gd_true (decide_eq_true (by omega)), bit_at W _ (by omega), w64_succ x (by omega)]
    have e : bits .or .i64 ((tabw (fun x => W.testBit (fx x m v)) x : Nat) : Int) (shlI .i64 ((if W.testBit (fx x m v) then 1 else 0 : Nat) : Int) (x : Int)) = ((tabw (fun x => W.testBit (fx x m v)) (x + 1) : Nat) : Int) := by
      cases hbit : W.testBit (fx x m v) with
      | true =>
        rw [if_pos rfl, show ((1 : Nat) : Int) = 1 from rfl, shl_one x (by omega), bOr _ _ (by omega) (by omega)]
        simp [tabw, hbit]
      | false =>
        rw [if_neg (by decide), shl_nat 0 x (by omega) (by omega), bOr _ _ (by omega) (by omega)]
        simp [tabw, hbit]
    rw [e]
  · simp only [spec_l19Word_l0, spec_l19Word_l0b]
    rw [gd_true (decide_eq_true (by omega)), shl_one n (by omega), decide_eq_false (by omega), cond_false]
    rfl

/-! ### Names and what is known -/
def memo (n : Nat) : Nat → List Nat → Mp
  | _, [] => []
  | i, w :: r => (((n : Int), (w : Int)), (i : Int)) :: memo n (i + 1) r
def ix : List Nat → Nat → Nat
  | [], _ => 0
  | x :: l, w => if x = w then 0 else 1 + ix l w
theorem ix_lt : ∀ {l : List Nat} {w : Nat}, l.contains w = true → ix l w < l.length
  | x :: l, w, h => by
    simp only [ix, List.length_cons]
    by_cases e : x = w
    · rw [if_pos e]; omega
    · rw [if_neg e]
      rw [List.contains_cons, beq_eq_false_iff_ne.2 (fun h => e h.symm), Bool.false_or] at h
      have := ix_lt h
      omega
theorem memo_spec (n : Nat) : ∀ (l : List Nat) (i w : Nat), hasM ⟨true, false⟩ (memo n i l) (n : Int) (w : Int) = l.contains w ∧
    (l.contains w = true → getM ⟨true, false⟩ (memo n i l) (n : Int) (w : Int) = ((i + ix l w : Nat) : Int)) ∧
    (l.contains w = false → putM ⟨true, false⟩ (memo n i l) (n : Int) (w : Int) ((i + l.length : Nat) : Int) = memo n i (l ++ [w]))
  | [], i, w => ⟨rfl, (fun h => by cases h), fun _ => rfl⟩
  | x :: l, i, w => by
    obtain ⟨h1, h2, h3⟩ := memo_spec n l (i + 1) w
    have e : (((x : Nat) : Int) == (w : Int)) = decide (x = w) := by rw [Bool.eq_iff_iff, beq_iff_eq, decide_eq_true_eq]; exact Int.ofNat_inj
    have e2 : (w == x) = decide (x = w) := by rw [Bool.eq_iff_iff, beq_iff_eq, decide_eq_true_eq]; exact eq_comm
    simp only [memo, hasM, getM, putM, eqK, beq_self_eq_true, Bool.not_true, Bool.false_or, Bool.true_and, e, h1, List.contains_cons, e2, ix, List.cons_append, List.length_cons]
    by_cases hx : x = w
    · rw [decide_eq_true hx]
      refine ⟨trivial, fun _ => ?_, fun h => by cases h⟩
      rw [cond_true, if_pos hx, Nat.add_zero]
    · rw [decide_eq_false hx]
      refine ⟨trivial, fun h => ?_, fun h => ?_⟩
      · rw [cond_false, if_neg hx, h2 h]
        congr 1
        omega
      · have := h3 h
        rw [cond_false, ← this, show i + (l.length + 1) = i + 1 + l.length by omega]
theorem names_loop (N : Nat) (hN : 1048576 < N) (v0 : List Int) (v1 v2 v3 v4 : Int) (w : Nat) (l : T3) (names : List Nat) (hl : names.length ≤ 1000) (v9 v10 : Int) (k0 : Int → T3 → List Int → Option β) (k1 : List Int → Int → Int → Int → Int → Int → T3 → List Int → Int → Int → Option β) :
    spec_l19Build_l0 N N v0 v1 v2 v3 v4 (w : Int) 0 l (li names) v9 v10 k0 k1 = cond (names.contains w) (k0 (ix names w : Int) l (li names)) (k1 v0 v1 v2 v3 v4 w l (li names) v9 v10) := by
  have main : ∀ (r pre : List Nat) (F : Nat), pre ++ r = names → r.length < F → spec_l19Build_l0 N F v0 v1 v2 v3 v4 (w : Int) (pre.length : Int) l (li names) v9 v10 k0 k1 =
      cond (r.contains w) (k0 ((pre.length + ix r w : Nat) : Int) l (li names)) (k1 v0 v1 v2 v3 v4 w l (li names) v9 v10) := by
    intro r
    induction r with
    | nil =>
      intro pre F hp hF
      obtain ⟨G, rfl⟩ : ∃ G, F = G + 1 := ⟨F - 1, by simp at hF; omega⟩
      have hlen : names.length = pre.length := by rw [← hp]; simp
      simp only [spec_l19Build_l0, spec_l19Build_l0b, li_len]
      rw [decide_eq_false (by omega), cond_false]
      rfl
    | cons x r ih =>
      intro pre F hp hF
      obtain ⟨G, rfl⟩ : ∃ G, F = G + 1 := ⟨F - 1, by simp at hF; omega⟩
      have hlen : names.length = pre.length + (r.length + 1) := by rw [← hp]; simp
      have hx : names.getD pre.length 0 = x := by rw [← hp]; simp [List.getD_eq_getElem?_getD]
      simp only [List.length_cons] at hF
      simp only [spec_l19Build_l0, spec_l19Build_l0b, li_len, li_rd, hx]
      rw [decide_eq_true (by omega : (pre.length : Int) < (names.length : Int)), decide_eq_true (by omega : (0 : Int) ≤ (pre.length : Int)), List.contains_cons]
      simp only [cond_true, gd, ix]
      by_cases e : x = w
      · rw [beq_iff_eq.2 (by rw [e] : (x : Int) = (w : Int)), beq_iff_eq.2 e.symm, if_pos e]
        rfl
      · have h2 := ih (pre ++ [x]) G (by rw [← hp]; simp) (by omega)
        rw [List.length_append, List.length_cons, List.length_nil, Nat.zero_add] at h2
        rw [beq_eq_false_iff_ne.2 (fun h => e (Int.ofNat_inj.1 h) : (x : Int) ≠ (w : Int)), beq_eq_false_iff_ne.2 (fun h => e h.symm), if_neg e, Bool.false_or, cond_false, w64_succ _ (by omega), h2, Nat.add_assoc]
  have := main names [] N rfl (by omega)
  simpa using this

theorem IndexFunc_at (N : Nat) (hN : 1048576 < N) (l : List Int) (hl : l.length ≤ 1048576) (f : Int → (Bool → Option β) → Option β) (q : Nat → Bool) (hf : ∀ i, i < l.length → ∀ k, f (rd 0 l (i : Int)) k = k (q i)) (L : Nat) (hL : L < l.length) (h0 : ∀ i, i < L → q i = false) (h1 : q L = true) (k : Int → Option β) :
    slices_IndexFunc_Sint_int N l f k = k (L : Int) := by
  unfold slices_IndexFunc_Sint_int
  have main : ∀ (d i F : Nat), i + d = L → d < F → slices_IndexFunc_Sint_int_l0 N f F l (l.length : Int) (i : Int) (fun e => k e) (k (-1)) = k (L : Int) := by
    intro d
    induction d with
    | zero =>
      intro i F hi hF
      obtain ⟨G, rfl⟩ : ∃ G, F = G + 1 := ⟨F - 1, by omega⟩
      have : i = L := by omega
      subst this
      simp only [slices_IndexFunc_Sint_int_l0, slices_IndexFunc_Sint_int_l0b]
      rw [decide_eq_true (by omega : (i : Int) < (l.length : Int)), decide_eq_true (by omega : (0 : Int) ≤ (i : Int))]
      simp only [cond_true, gd]
      rw [hf i hL, h1, cond_true]
    | succ d ih =>
      intro i F hi hF
      obtain ⟨G, rfl⟩ : ∃ G, F = G + 1 := ⟨F - 1, by omega⟩
      simp only [slices_IndexFunc_Sint_int_l0, slices_IndexFunc_Sint_int_l0b]
      rw [decide_eq_true (by omega : (i : Int) < (l.length : Int)), decide_eq_true (by omega : (0 : Int) ≤ (i : Int))]
      simp only [cond_true, gd]
      rw [hf i (by omega), h0 i (by omega), cond_false, w64_succ i (by omega)]
      exact ih (i + 1) G (by omega) (by omega)
  exact main L 0 N (by omega) (by omega)

theorem impl_isSame_eq (N : Nat) (n w : Nat) (hn : n ≤ 4) (hw : w < 2 ^ 2 ^ n) (K : Bool → Option β) : impl_Table_isSame N (n : Int) (w : Int) K = K (w == 0 || w == 2 ^ 2 ^ n - 1) := by
  have hs := sz4 hn
  have hw' := two32 (by omega) hw
  have hp : 2 ^ 2 ^ n ≤ 2 ^ 16 := Nat.pow_le_pow_right (by decide) hs
  have hp0 := Nat.two_pow_pos (2 ^ n)
  unfold impl_Table_isSame impl_Table_not
  have e0 : ((w : Int) == 0) = (w == 0) := by rw [Bool.eq_iff_iff, beq_iff_eq, beq_iff_eq]; omega
  rw [e0]
  cases h0 : w == 0 with
  | true => rfl
  | false =>
    rw [cond_false, impl_Table_size_eq N n _ (by omega), Bool.false_or]
    try rw [gd_true (decide_eq_true (Int.natCast_nonneg _))]
    rw [shl_one _ (by omega), w64_id (by omega) (by omega), show ((2 ^ 2 ^ n : Nat) : Int) - 1 = ((2 ^ 2 ^ n - 1 : Nat) : Int) by omega, bXor w _ (by omega) (by omega)]
    dsimp only
    congr 1
    rw [Bool.eq_iff_iff, beq_iff_eq, beq_iff_eq]
    constructor
    · intro h
      exact xor_zero (Int.ofNat_eq_zero.1 h)
    · intro h
      rw [h, Nat.xor_self]; rfl

/-! ### Orders -/
structure PermOK (n : Nat) (p : List Nat) : Prop where
  len : p.length = n
  all : ∀ i, i < n → p.contains i = true
  lt : ∀ x ∈ p, x < n
  ne : ∀ i, i < n → ∀ j, j < i → p.getD j 0 ≠ p.getD i 0
theorem permB_ok {n : Nat} {p : List Nat} (h : permB n p = true) : PermOK n p := by
  simp only [permB, Bool.and_eq_true, List.all_eq_true, List.mem_range, decide_eq_true_eq, bne_iff_ne] at h
  obtain ⟨⟨⟨h1, h2⟩, h3⟩, h4⟩ := h
  exact ⟨Nat.eq_of_beq_eq_true h1, h2, h3, h4⟩
theorem prm_perm {n : Nat} (hn : n ≤ 4) {p : List Nat} (h : p ∈ prm n) : PermOK n p := by
  have := prm_ok n hn
  simp only [Bool.and_eq_true, List.all_eq_true] at this
  exact permB_ok (this.1.1 p h)
theorem PermOK.getD_lt {n : Nat} {p : List Nat} (h : PermOK n p) {i : Nat} (hi : i < n) : p.getD i 0 < n := by
  rw [List.getD_eq_getElem?_getD, List.getElem?_eq_getElem (by rw [h.len]; exact hi)]
  exact h.lt _ (List.getElem_mem _)
/-- The mask of the first variables of an order. -/
def MM (p : List Nat) (m L : Nat) : Prop := ∀ j, m.testBit j = (p.take L).contains j
theorem MM.old {n : Nat} {p : List Nat} (h : PermOK n p) {m L : Nat} (hm : MM p m L) (hL : L < n) {j : Nat} (hj : j < L) : m.testBit (p.getD j 0) = true := by
  rw [hm, List.contains_iff_mem]
  have : (p.take L)[j]? = some (p.getD j 0) := by
    rw [List.getElem?_take, if_pos hj, List.getD_eq_getElem?_getD, List.getElem?_eq_getElem (by rw [h.len]; omega)]
    rfl
  exact List.mem_of_getElem? this
theorem MM.new {n : Nat} {p : List Nat} (h : PermOK n p) {m L : Nat} (hm : MM p m L) (hL : L < n) : m.testBit (p.getD L 0) = false := by
  rw [hm]
  cases hc : (p.take L).contains (p.getD L 0) with
  | false => rfl
  | true =>
    rw [List.contains_iff_mem] at hc
    obtain ⟨j, hj⟩ := List.mem_iff_getElem?.1 hc
    rw [List.getElem?_take] at hj
    split at hj
    · rename_i hjL
      have := h.ne L hL j hjL
      rw [List.getD_eq_getElem?_getD (l := p) (i := j), hj] at this
      exact absurd rfl this
    · cases hj
theorem MM.next {n : Nat} {p : List Nat} (h : PermOK n p) {m L : Nat} (hm : MM p m L) (hL : L < n) : MM p (m ||| 2 ^ p.getD L 0) (L + 1) := fun j => by
  rw [Nat.testBit_or, hm, take_snoc p L (by rw [h.len]; exact hL), List.contains_append, List.contains_cons, List.contains_nil, Bool.or_false, Nat.testBit_two_pow]
  congr 1
  rw [Bool.eq_iff_iff, beq_iff_eq, decide_eq_true_eq]
  exact eq_comm
theorem MM.full {n : Nat} {p : List Nat} (h : PermOK n p) {m : Nat} (hm : MM p m n) {x : Nat} (hx : x < 2 ^ n) : x &&& m = x := Nat.eq_of_testBit_eq fun j => by
  rw [Nat.testBit_and, hm, show p.take n = p by rw [← h.len, List.take_length]]
  by_cases hj : j < n
  · rw [h.all j hj, Bool.and_true]
  · rw [Nat.testBit_lt_two_pow (Nat.lt_of_lt_of_le hx (Nat.pow_le_pow_right (by decide) (by omega))), Bool.false_and]

section
variable (N n W : Nat) (p : List Nat) (hN : 1048576 < N) (hn : n ≤ 4) (hW : W < 2 ^ 2 ^ n) (hp : PermOK n p)
include hN hn hW hp

theorem sim_const (F G L m v : Nat) (l : T3) (names : List Nat) (hvl : v < 2 ^ n) (hml : m < 2 ^ n) (hvm : v &&& m = v) (hone : (sc W m v false (2 ^ n) && sc W m v true (2 ^ n)) = false) :
    ∃ a : Int, (a = -2 ∨ a = -1) ∧ (∀ K : Int → T3 → List Int → Option β, spec_l19Build_g0_f N (F + 1) (n : Int) (W : Int) (li p) (L : Int) (m : Int) (v : Int) l (li names) K = K a l (li names)) ∧
      (∀ K : Int → List Int → Mp → T3 → Option β, impl_diagram_walk_g0_f N (G + 1) (n : Int) (wd W n m v : Int) (li p) l (memo n 0 names) K = K a (li p) (memo n 0 names) l) := by
  have _ := hp
  have hs := sz4 hn
  have hW' := two32 (by omega) hW
  have hwl := wd_lt W n m v
  have hw32 := two32 (by omega) hwl
  obtain ⟨c1, c2⟩ := wd_const (W := W) hvl hvm
  have he := sc_either (W := W) hvl hvm
  have hp0 := Nat.two_pow_pos (2 ^ n)
  have hn0 := Nat.two_pow_pos n
  cases h2 : sc W m v true (2 ^ n) with
  | false =>
    rw [h2, Bool.or_false] at he
    rw [h2] at c1
    have hz := eq_of_beq c1
    refine ⟨-2, .inl rfl, fun K => ?_, fun K => ?_⟩
    · simp only [spec_l19Build_g0_f, spec_l19Build_g0_b]
      rw [spec_l3Cube_eq N (by omega) n W m v (by omega) hW' (by omega), he, h2]
      rfl
    · simp only [impl_diagram_walk_g0_f, impl_diagram_walk_g0_b]
      have e := fun K => impl_Table_at_eq (β := β) N 0 0 (n : Int) (by decide) K
      simp only [Int.natCast_zero] at e
      rw [impl_isSame_eq N n _ hn hwl, hz, beq_self_eq_true, Bool.true_or, cond_true, Int.natCast_zero, e]
      rfl
  | true =>
    rw [h2, Bool.and_true] at hone
    rw [hone] at c2
    have hz := eq_of_beq c2
    refine ⟨-1, .inr rfl, fun K => ?_, fun K => ?_⟩
    · simp only [spec_l19Build_g0_f, spec_l19Build_g0_b]
      rw [spec_l3Cube_eq N (by omega) n W m v (by omega) hW' (by omega), hone, h2]
      rfl
    · simp only [impl_diagram_walk_g0_f, impl_diagram_walk_g0_b]
      have e := fun K => impl_Table_at_eq (β := β) N (2 ^ 2 ^ n - 1) 0 (n : Int) (by omega) K
      have hb : bw (2 ^ 2 ^ n - 1) 0 = 1 := by
        unfold bw
        rw [Nat.testBit_two_pow_sub_one, decide_eq_true hn0]
        rfl
      simp only [Int.natCast_zero, hb] at e
      rw [impl_isSame_eq N n _ hn hwl, hz, beq_self_eq_true, Bool.or_true, cond_true, e]
      rfl

theorem sim : ∀ (d F G L m v : Nat) (l : T3) (names : List Nat), L + d = n → d < F → d < G → MM p m L → m < 2 ^ n → v < 2 ^ n → v &&& m = v → names.length = l.length → l.length + 2 ^ d ≤ 1000 →
    ∃ (a : Int) (nl : T3) (new : List Nat),
      (∀ K : Int → T3 → List Int → Option β, spec_l19Build_g0_f N F (n : Int) (W : Int) (li p) (L : Int) (m : Int) (v : Int) l (li names) K = K a (l ++ nl) (li (names ++ new))) ∧
      (∀ K : Int → List Int → Mp → T3 → Option β, impl_diagram_walk_g0_f N G (n : Int) (wd W n m v : Int) (li p) l (memo n 0 names) K = K a (li p) (memo n 0 (names ++ new)) (l ++ nl)) ∧
      nl.length = new.length ∧ nl.length + 1 ≤ 2 ^ d ∧ (∀ w ∈ new, ∀ i, i < n → m.testBit i = true → dep w n i = false) ∧ -2 ≤ a ∧ a < ((l.length + nl.length : Nat) : Int) ∧
      (∀ x ∈ nl, 0 ≤ x.1 ∧ x.1 < (n : Int) ∧ -2 ≤ x.2.1 ∧ x.2.1 < ((l.length + nl.length : Nat) : Int) ∧ -2 ≤ x.2.2 ∧ x.2.2 < ((l.length + nl.length : Nat) : Int)) := by
  have hs := sz4 hn
  have hW' := two32 (by omega) hW
  intro d
  induction d with
  | zero =>
    intro F G L m v l names hL hF hG hm hml hvl hvm hnl hbd
    obtain ⟨F, rfl⟩ : ∃ F', F = F' + 1 := ⟨F - 1, by omega⟩
    obtain ⟨G, rfl⟩ : ∃ G', G = G' + 1 := ⟨G - 1, by omega⟩
    have hLn : L = n := by omega
    rw [hLn] at hm
    have hone : (sc W m v false (2 ^ n) && sc W m v true (2 ^ n)) = false := by
      cases h1 : sc W m v false (2 ^ n) with
      | false => rfl
      | true =>
        cases h2 : sc W m v true (2 ^ n) with
        | false => rfl
        | true =>
          obtain ⟨x, a1, a2, a3⟩ := (sc_iff W m v false _).1 h1
          obtain ⟨y, b1, b2, b3⟩ := (sc_iff W m v true _).1 h2
          rw [hm.full hp a1] at a2
          rw [hm.full hp b1] at b2
          rw [a2] at a3
          rw [b2, a3] at b3
          cases b3
    obtain ⟨a, ha, e1, e2⟩ := sim_const (β := β) N n W p hN hn hW hp F G L m v l names hvl hml hvm hone
    refine ⟨a, [], [], fun K => ?_, fun K => ?_, rfl, Nat.le_refl _, (fun w h => by cases h), by omega, by simp; omega, (fun x h => by cases h)⟩
    · rw [e1, List.append_nil, List.append_nil]
    · rw [e2, List.append_nil, List.append_nil]
  | succ d ih =>
    intro F G L m v l names hL hF hG hm hml hvl hvm hnl hbd
    obtain ⟨F, rfl⟩ : ∃ F', F = F' + 1 := ⟨F - 1, by omega⟩
    cases hone : (sc W m v false (2 ^ n) && sc W m v true (2 ^ n)) with
    | false =>
      obtain ⟨G, rfl⟩ : ∃ G', G = G' + 1 := ⟨G - 1, by omega⟩
      obtain ⟨a, ha, e1, e2⟩ := sim_const (β := β) N n W p hN hn hW hp F G L m v l names hvl hml hvm hone
      refine ⟨a, [], [], fun K => ?_, fun K => ?_, rfl, Nat.pow_pos (by decide), (fun w h => by cases h), by omega, by simp; omega, (fun x h => by cases h)⟩
      · rw [e1, List.append_nil, List.append_nil]
      · rw [e2, List.append_nil, List.append_nil]
    | true =>
      have hLn : L < n := by omega
      have hb := hp.getD_lt hLn
      have hmb := hm.new hp hLn
      have hm' := hm.next hp hLn
      have hrd := li_rd p L
      have hplen := hp.len
      have hwl := wd_lt W n m v
      have hw32 := two32 (by omega) hwl
      obtain ⟨c1, c2⟩ := wd_const (W := W) hvl hvm
      simp only [Bool.and_eq_true] at hone
      rw [hone.2] at c1
      rw [hone.1] at c2
      have hold : ∀ j, j < L → dep (wd W n m v) n (p.getD j 0) = false := fun j hj => dep_in (by omega) (hp.getD_lt (by omega)) (hm.old hp hLn hj)
      generalize hbe : p.getD L 0 = b at hb hmb hm' hrd
      have hb4 : 2 ^ b < 2 ^ n := Nat.pow_lt_pow_right (by decide) hb
      have hml' : m ||| 2 ^ b < 2 ^ n := Nat.or_lt_two_pow hml hb4
      have hvl' : v ||| 2 ^ b < 2 ^ n := Nat.or_lt_two_pow hvl hb4
      have hvm1 : v &&& (m ||| 2 ^ b) = v := Nat.eq_of_testBit_eq fun j => by
        rw [Nat.testBit_and, Nat.testBit_or]
        have := sub_bit (j := j) hvm
        revert this
        cases v.testBit j <;> cases m.testBit j <;> simp
      have hvm2 : (v ||| 2 ^ b) &&& (m ||| 2 ^ b) = v ||| 2 ^ b := Nat.eq_of_testBit_eq fun j => by
        rw [Nat.testBit_and, Nat.testBit_or, Nat.testBit_or]
        have := sub_bit (j := j) hvm
        revert this
        cases v.testBit j <;> cases m.testBit j <;> cases (2 ^ b).testBit j <;> simp
      have hs0 : stk (wd W n m v) n b 0 = wd W n (m ||| 2 ^ b) v := by
        rw [stk_wd (by omega) hb (by decide) hmb, Nat.zero_mul, Nat.or_zero]
      have hs1 : stk (wd W n m v) n b 1 = wd W n (m ||| 2 ^ b) (v ||| 2 ^ b) := by
        rw [stk_wd (by omega) hb (by decide) hmb, Nat.one_mul]
      have htest := dep_test (w := wd W n m v) (n := n) (i := b) (by omega) hb hwl
      rw [hs0, hs1] at htest
      have hsh : shlI .i64 1 (b : Int) = ((2 ^ b : Nat) : Int) := shl_one b (by omega)
      have hor : bits .or .i64 (m : Int) ((2 ^ b : Nat) : Int) = ((m ||| 2 ^ b : Nat) : Int) := bOr m _ (by omega) (by omega)
      have hor2 : bits .or .i64 (v : Int) ((2 ^ b : Nat) : Int) = ((v ||| 2 ^ b : Nat) : Int) := bOr v _ (by omega) (by omega)
      have ev : ∀ x y : Nat, (((x : Nat) : Int) == (y : Int)) = (x == y) := fun x y => by rw [Bool.eq_iff_iff, beq_iff_eq, beq_iff_eq]; exact Int.ofNat_inj
      have step : ∀ K : Int → T3 → List Int → Option β, spec_l19Build_g0_f N (F + 1) (n : Int) (W : Int) (li p) (L : Int) (m : Int) (v : Int) l (li names) K =
          cond (!dep (wd W n m v) n b) (spec_l19Build_g0_f N F (n : Int) (W : Int) (li p) ((L + 1 : Nat) : Int) ((m ||| 2 ^ b : Nat) : Int) (v : Int) l (li names) fun a b c => K a b c)
            (cond (names.contains (wd W n m v)) (K (ix names (wd W n m v) : Int) l (li names))
              (spec_l19Build_g0_f N F (n : Int) (W : Int) (li p) ((L + 1 : Nat) : Int) ((m ||| 2 ^ b : Nat) : Int) (v : Int) l (li names) fun r0 r1 r2 =>
                spec_l19Build_g0_f N F (n : Int) (W : Int) (li p) ((L + 1 : Nat) : Int) ((m ||| 2 ^ b : Nat) : Int) ((v ||| 2 ^ b : Nat) : Int) r1 r2 fun q0 q1 q2 =>
                  gd (decide ((q1.length + 1) * 24 ≤ 140737488355328)) (gd (decide ((q2.length + 1) * 8 ≤ 140737488355328)) (K (q1.length : Int) (q1 ++ [((b : Int), r0, q0)]) (q2 ++ [((wd W n m v : Nat) : Int)]))))) := fun K => by
        simp only [spec_l19Build_g0_f, spec_l19Build_g0_b]
        rw [spec_l3Cube_eq N (by omega) n W m v (by omega) hW' (by omega), hone.1, hone.2]
        simp only [cres, cond_true, li_len, hrd, hsh, hor, hor2, List.nil_append]
        simp only [Int.lt_irrefl, decide_false, cond_false]
        rw [gd_true (decide_eq_true (by omega)), gd_true (decide_eq_true (by omega)), gd_true (decide_eq_true (by omega))]
        rw [spec_l19Word_eq N (by omega) n W _ _ hn hW hml' hvl hvm1, spec_l19Word_eq N (by omega) n W _ _ hn hW hml' hvl' hvm2, ev, htest, w64_succ L (by omega), spec_l19Word_eq N (by omega) n W _ _ hn hW hml hvl hvm]
        rw [names_loop N hN _ _ _ _ _ _ _ _ (by have := Nat.two_pow_pos (d + 1); omega)]
        simp only [li_len, hrd, hor, hor2, decide_eq_true (by omega : (0 : Int) ≤ (L : Int)), decide_eq_true (by omega : (L : Int) < (p.length : Int)), w64_succ L (by omega)]
        rfl
      have hpd := Nat.two_pow_pos d
      cases hd : dep (wd W n m v) n b with
      | false =>
        have hsame : wd W n (m ||| 2 ^ b) v = wd W n m v := by rw [← hs0]; exact stk_free (by omega) hb (by decide) hwl hd
        obtain ⟨a, nl, new, e1, e2, e3, e4, e5, e6, e7, e8⟩ := ih F G (L + 1) (m ||| 2 ^ b) v l names (by omega) (by omega) (by omega) hm' hml' hvl hvm1 hnl (by rw [Nat.pow_succ] at hbd; omega)
        rw [hsame] at e2
        refine ⟨a, nl, new, fun K => ?_, e2, e3, by rw [Nat.pow_succ]; omega, fun w hw i hi hmi => e5 w hw i hi (by rw [Nat.testBit_or, hmi, Bool.true_or]), e6, e7, e8⟩
        rw [step, hd, Bool.not_false, cond_true, e1]
      | true =>
        obtain ⟨G, rfl⟩ : ∃ G', G = G' + 1 := ⟨G - 1, by omega⟩
        obtain ⟨m1, m2, m3⟩ := memo_spec n names 0 (wd W n m v)
        have hidx : ∀ K : Int → Option β, slices_IndexFunc_Sint_int N (li p) (fun x0 k => impl_Table_depends N (n : Int) (wd W n m v : Int) x0 k) K = K (L : Int) := fun K =>
          IndexFunc_at N hN (li p) (by rw [li_len]; omega) _ (fun j => dep (wd W n m v) n (p.getD j 0)) (fun i hi k => by
            rw [li_len] at hi
            rw [li_rd]
            exact impl_deps_eq N (by omega) n _ _ (by omega) (hp.getD_lt (by omega)) hw32 k) L (by rw [li_len]; omega) hold (by rw [hbe]; exact hd) K
        have hwalk : ∀ K : Int → List Int → Mp → T3 → Option β, impl_diagram_walk_g0_f N (G + 1) (n : Int) (wd W n m v : Int) (li p) l (memo n 0 names) K =
            cond (names.contains (wd W n m v)) (K (getM ⟨true, false⟩ (memo n 0 names) (n : Int) (wd W n m v : Int)) (li p) (memo n 0 names) l)
              (impl_diagram_walk_g0_f N G (n : Int) (wd W n (m ||| 2 ^ b) v : Int) (li p) l (memo n 0 names) fun r0 r1 r2 r3 =>
                impl_diagram_walk_g0_f N G (n : Int) (wd W n (m ||| 2 ^ b) (v ||| 2 ^ b) : Int) r1 r3 r2 fun q0 q1 q2 q3 =>
                  gd (decide ((q3.length + 1) * 24 ≤ 140737488355328)) (K (w64 (((q3 ++ [((b : Int), r0, q0)]).length : Int) - 1)) q1 (putM ⟨true, false⟩ q2 (n : Int) (wd W n m v : Int) (w64 (((q3 ++ [((b : Int), r0, q0)]).length : Int) - 1))) (q3 ++ [((b : Int), r0, q0)]))) := fun K => by
          have k0 := fun K => impl_Table_stuck_eq (β := β) N (by omega) n (wd W n m v) b 0 (by omega) hw32 (by omega) (by decide) K
          have k1 := fun K => impl_Table_stuck_eq (β := β) N (by omega) n (wd W n m v) b 1 (by omega) hw32 (by omega) (by decide) K
          have hs0' : tabw (fun x => (wd W n m v).testBit (ys x b 0)) (2 ^ n) = wd W n (m ||| 2 ^ b) v := hs0
          have hs1' : tabw (fun x => (wd W n m v).testBit (ys x b 1)) (2 ^ n) = wd W n (m ||| 2 ^ b) (v ||| 2 ^ b) := hs1
          simp only [hs0', Int.natCast_zero] at k0
          simp only [hs1'] at k1
          have k1 : ∀ K : Int → Int → Option β, impl_Table_stuck N (n : Int) (wd W n m v : Int) (b : Int) 1 K = K n (wd W n (m ||| 2 ^ b) (v ||| 2 ^ b) : Int) := k1
          simp only [impl_diagram_walk_g0_f, impl_diagram_walk_g0_b]
          rw [impl_isSame_eq N n _ hn hwl, c1, c2]
          simp only [Bool.not_true, Bool.or_self, cond_false, m1, hidx, li_len, hrd, k0, k1, List.nil_append, decide_eq_true (by omega : (0 : Int) ≤ (L : Int)), decide_eq_true (by omega : (L : Int) < (p.length : Int))]
          rfl
        cases hc : names.contains (wd W n m v) with
        | true =>
          have hi := ix_lt hc
          have hg := m2 hc
          rw [Nat.zero_add] at hg
          refine ⟨(ix names (wd W n m v) : Int), [], [], fun K => ?_, fun K => ?_, rfl, Nat.pow_pos (by decide), (fun w h => by cases h), by omega, by simp; omega, (fun x h => by cases h)⟩
          · rw [step, hd, Bool.not_true, cond_false, hc, cond_true, List.append_nil, List.append_nil]
          · rw [hwalk, hc, cond_true, hg, List.append_nil, List.append_nil]
        | false =>
          have hpow : 2 ^ (d + 1) = 2 ^ d + 2 ^ d := by rw [Nat.pow_succ]; omega
          obtain ⟨a0, nl0, new0, x1, x2, x3, x4, x5, x6, x7, x8⟩ := ih F G (L + 1) (m ||| 2 ^ b) v l names (by omega) (by omega) (by omega) hm' hml' hvl hvm1 hnl (by omega)
          obtain ⟨a1, nl1, new1, y1, y2, y3, y4, y5, y6, y7, y8⟩ := ih F G (L + 1) (m ||| 2 ^ b) (v ||| 2 ^ b) (l ++ nl0) (names ++ new0) (by omega) (by omega) (by omega) hm' hml' hvl' hvm2 (by rw [List.length_append, List.length_append]; omega) (by rw [List.length_append]; omega)
          simp only [List.length_append] at y7 y8
          have hmb' : (m ||| 2 ^ b).testBit b = true := by rw [Nat.testBit_or, Nat.testBit_two_pow_self, Bool.or_true]
          have hnot : ∀ q : List Nat, (∀ w ∈ q, dep w n b = false) → q.contains (wd W n m v) = false := fun q hq => by
            cases hqc : q.contains (wd W n m v) with
            | false => rfl
            | true =>
              rw [List.contains_iff_mem] at hqc
              rw [hq _ hqc] at hd
              cases hd
          have hcc : (names ++ new0 ++ new1).contains (wd W n m v) = false := by
            rw [List.contains_append, List.contains_append, hc, hnot new0 fun w hw => x5 w hw b hb hmb', hnot new1 fun w hw => y5 w hw b hb hmb']
            rfl
          have hput := (memo_spec n (names ++ new0 ++ new1) 0 (wd W n m v)).2.2 hcc
          have hlen : (names ++ new0 ++ new1).length = (l ++ nl0 ++ nl1).length := by simp only [List.length_append]; omega
          rw [Nat.zero_add, hlen] at hput
          have hll : (l ++ nl0 ++ nl1).length = l.length + nl0.length + nl1.length := by simp only [List.length_append]
          refine ⟨((l ++ nl0 ++ nl1).length : Int), nl0 ++ nl1 ++ [((b : Int), a0, a1)], new0 ++ new1 ++ [wd W n m v], fun K => ?_, fun K => ?_, by simp only [List.length_append, List.length_cons, List.length_nil]; omega, by simp only [List.length_append, List.length_cons, List.length_nil]; omega, fun w hw i hi hmi => ?_, by omega, by simp only [List.length_append, List.length_cons, List.length_nil]; omega, fun x hx => ?_⟩
          · rw [step, hd, Bool.not_true, cond_false, hc, cond_false, x1, y1, gd_true (decide_eq_true (by omega)), gd_true (decide_eq_true (by rw [li_len]; omega)), ← li_snoc]
            simp only [List.append_assoc]
          · rw [hwalk, hc, cond_false, x2, y2, gd_true (decide_eq_true (by omega)), show w64 (((l ++ nl0 ++ nl1 ++ [((b : Int), a0, a1)]).length : Int) - 1) = ((l ++ nl0 ++ nl1).length : Int) by
              rw [List.length_append, List.length_cons, List.length_nil, w64_id (by omega) (by omega)]; omega, hput]
            simp only [List.append_assoc]
          · rcases List.mem_append.1 hw with hw | hw
            · rcases List.mem_append.1 hw with hw | hw
              · exact x5 w hw i hi (by rw [Nat.testBit_or, hmi, Bool.true_or])
              · exact y5 w hw i hi (by rw [Nat.testBit_or, hmi, Bool.true_or])
            · simp only [List.mem_singleton] at hw
              subst hw
              exact dep_in (by omega) hi hmi
          · simp only [List.length_append, List.length_cons, List.length_nil]
            rcases List.mem_append.1 hx with hx | hx
            · rcases List.mem_append.1 hx with hx | hx
              · have := x8 x hx; omega
              · have := y8 x hx; omega
            · simp only [List.mem_singleton] at hx
              subst hx
              dsimp only
              omega
end
end Go.Proofs.Ytfdggelojmofmaa
