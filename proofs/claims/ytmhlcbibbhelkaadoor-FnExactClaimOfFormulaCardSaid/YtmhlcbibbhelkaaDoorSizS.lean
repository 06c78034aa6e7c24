/- Plain law: the rounds end, and both tables of sizes are the same. -/
import Derived.Test.YtmhlcbibbhelkaaDoorSizQ
namespace Go.Proofs.YtmhlcbibbhelkaaDoor
set_option linter.unusedVariables false
set_option linter.unusedSimpArgs false
/-- The state before round m + 2. -/
def stt (n : Nat) : Nat → SS
  | 0 => varS n n
  | m + 1 => ast (m + 2) ((stt n m).1, (stt n m).2 ++ [[]]) ((m + 2) / 2)
def zt (n : Nat) : Nat → List Int × List (List Nat) × Int
  | 0 => ((varZ n n).1, [[], (varZ n n).2], ((2 ^ 2 ^ n : Nat) : Int) - 2 - 2 * (n : Int))
  | m + 1 => ((za (2 ^ 2 ^ n - 1) (m + 2) (zt n m).2.1 ((zt n m).1, [], (zt n m).2.2) (m + 1)).1, (zt n m).2.1 ++ [(za (2 ^ 2 ^ n - 1) (m + 2) (zt n m).2.1 ((zt n m).1, [], (zt n m).2.2) (m + 1)).2.1], (za (2 ^ 2 ^ n - 1) (m + 2) (zt n m).2.1 ((zt n m).1, [], (zt n m).2.2) (m + 1)).2.2)
theorem same0 : ∀ n, n ≤ 3 → (varS n n).2 = [[], (varZ n n).2] ∧ ((List.range (2 ^ 2 ^ n)).all fun y => (decide (gt (varS n n).1 y < 0) == decide (gt (varS n n).1 y = -1)) && (gt (varZ n n).1 y == cond (decide (gt (varS n n).1 y < 0)) 0 (gt (varS n n).1 y)) &&
    (Nat.beq y 0 || Nat.beq y (2 ^ 2 ^ n - 1) || !(gt (varS n n).1 y == 0)) && (decide (gt (varS n n).1 y < 1) || (gt (varS n n).1 y == 1 && ((varS n n).2.getD 1 []).contains y))) = true ∧ gt (varS n n).1 0 = 0 ∧ gt (varS n n).1 (2 ^ 2 ^ n - 1) = 0 := by decide +kernel
theorem past_gt {l : List Int} {y : Nat} (h : l.length ≤ y) : gt l y = 0 := getD_past h
theorem lock0 {n : Nat} (hn : n ≤ 3) : Lock (2 ^ 2 ^ n) 2 (varS n n).1 (varS n n).2 (varZ n n).1 [[], (varZ n n).2] (((2 ^ 2 ^ n : Nat) : Int) - 2 - 2 * (n : Int)) := by
  obtain ⟨h1, h2, h3, h4⟩ := same0 n hn
  have hk := keeps_v hn n (Nat.le_refl _)
  have hv := varZ_ok n hn n (by omega)
  have hl1 := hk.good.len
  have key := fun y (hy : y < 2 ^ 2 ^ n) => List.all_eq_true.1 h2 y (List.mem_range.2 hy)
  refine ⟨hl1, hv.1, fun y hy => ?_, h3, h4, fun y => ?_, fun y hy1 hy2 => ?_, fun i y hi => by rw [h1], by rw [hk.len]; rfl, rfl, varZ_left n hn, hk.good, fun l hl => ?_⟩
  · rcases Nat.lt_or_ge y (2 ^ 2 ^ n) with h | h
    · have := key y h
      simp only [Bool.and_eq_true, beq_iff_eq] at this
      have e := this.1.1.1
      rw [decide_eq_true hy] at e
      exact of_decide_eq_true e.symm
    · rw [past_gt (by omega)] at hy; omega
  · rcases Nat.lt_or_ge y (2 ^ 2 ^ n) with h | h
    · have := key y h
      simp only [Bool.and_eq_true, beq_iff_eq] at this
      have e := this.1.1.2
      rw [e]
      by_cases hy : gt (varS n n).1 y < 0
      · rw [decide_eq_true hy, if_pos hy]; rfl
      · rw [decide_eq_false hy, if_neg hy]; rfl
    · rw [past_gt (by rw [hv.1]; exact h), past_gt (by omega)]; rfl
  · have := key y (by omega)
    simp only [Bool.and_eq_true, Bool.or_eq_true, beq_iff_eq, Bool.not_eq_true'] at this
    rcases this.1.2 with (e | e) | e
    · have := Nat.eq_of_beq_eq_true e; omega
    · have := Nat.eq_of_beq_eq_true e; omega
    · intro h; rw [h] at e; simp at e
  · simp only [List.mem_cons, List.not_mem_nil, or_false] at hl
    rcases hl with rfl | rfl
    · simp
    · refine ⟨?_, fun x hx => of_decide_eq_true (List.all_eq_true.1 hv.2.2 x hx)⟩
      rw [hv.2.1]
      obtain rfl | rfl | rfl | rfl : n = 0 ∨ n = 1 ∨ n = 2 ∨ n = 3 := by omega
      all_goals decide
theorem lockN {n : Nat} (hn : n ≤ 3) : ∀ m, Lock (2 ^ 2 ^ n) (m + 2) (stt n m).1 (stt n m).2 (zt n m).1 (zt n m).2.1 (zt n m).2.2
  | 0 => lock0 hn
  | m + 1 => (lockN hn m).step hn rfl (by omega)
/-- What a round leaves. -/
theorem round {n : Nat} (hn : n ≤ 3) (m : Nat) :
    (∀ y, gt (stt n (m + 1)).1 y = if gt (stt n m).1 y < 0 ∧ y ∈ wordsR (m + 2) ((stt n m).2 ++ [[]]) ((m + 2) / 2) then ((m + 2 : Nat) : Int) else gt (stt n m).1 y) ∧
    (∀ i, i < m + 2 → (stt n (m + 1)).2.getD i [] = (stt n m).2.getD i []) ∧
    (∀ y, y ∈ (stt n (m + 1)).2.getD (m + 2) [] ↔ gt (stt n m).1 y < 0 ∧ y ∈ wordsR (m + 2) ((stt n m).2 ++ [[]]) ((m + 2) / 2)) := by
  have h := lockN hn m
  have hg0 := h.good.snoc
  have hwl : ∀ w ∈ wordsR (m + 2) ((stt n m).2 ++ [[]]) ((m + 2) / 2), w < 2 ^ 2 ^ n := fun w hw => by
    obtain ⟨i, hi, f, hf, g, hg, e⟩ := mem_words.1 hw
    have h1 := (hg0.row (i + 1)).2 f hf
    have h2 := (hg0.row (m + 2 - (i + 1))).2 g hg
    rcases e with rfl | rfl
    · exact Nat.and_lt_two_pow _ h2
    · exact Nat.or_lt_two_pow h1 h2
  have hk := keeps_a (k := 2 ^ n) rfl (s := m + 2) hg0 ((m + 2) / 2) (Nat.le_refl _)
  have eA := ast_all (m + 2) ((stt n m).1, (stt n m).2 ++ [[]]) ((m + 2) / 2) (by omega)
  have hlen : ∀ w ∈ wordsR (m + 2) ((stt n m).2 ++ [[]]) ((m + 2) / 2), w < (stt n m).1.length := fun w hw => by rw [h.l1]; exact hwl w hw
  have o2 := (allS_os (m + 2) _ ((stt n m).1, (stt n m).2 ++ [[]]) hlen).2
  have o3 := allS_row (m + 2) _ ((stt n m).1, (stt n m).2 ++ [[]]) hlen (by show m + 2 < ((stt n m).2 ++ [[]]).length; rw [List.length_append, h.b1]; simp)
  rw [← eA] at o2 o3
  refine ⟨o2, fun i hi => ?_, fun y => ?_⟩
  · show (ast (m + 2) ((stt n m).1, (stt n m).2 ++ [[]]) ((m + 2) / 2)).2.getD i [] = _
    rw [hk.other i (by omega)]
    exact getD_app (by rw [h.b1]; exact hi)
  · show y ∈ (ast (m + 2) ((stt n m).1, (stt n m).2 ++ [[]]) ((m + 2) / 2)).2.getD (m + 2) [] ↔ _
    rw [o3 y]
    have e1 : ((stt n m).2 ++ [[]]).getD (m + 2) [] = [] := by simp [List.getD, h.b1]
    show y ∈ ((stt n m).2 ++ [[]]).getD (m + 2) [] ∨ _ ↔ _
    rw [e1]
    simp
/-- A size that is told stays, and a later one is greater. -/
theorem late {n : Nat} (hn : n ≤ 3) (m : Nat) (y : Nat) : ∀ d, gt (stt n (m + d)).1 y = gt (stt n m).1 y ∨ (gt (stt n m).1 y < 0 ∧ (gt (stt n (m + d)).1 y < 0 ∨ ((m + 2 : Nat) : Int) ≤ gt (stt n (m + d)).1 y))
  | 0 => .inl rfl
  | d + 1 => by
    have h := (round hn (m + d)).1 y
    have ih := late hn m y d
    show gt (stt n (m + d + 1)).1 y = _ ∨ (_ ∧ (gt (stt n (m + d + 1)).1 y < 0 ∨ _ ≤ gt (stt n (m + d + 1)).1 y))
    rw [h]
    by_cases e : gt (stt n (m + d)).1 y < 0 ∧ y ∈ wordsR (m + d + 2) ((stt n (m + d)).2 ++ [[]]) ((m + d + 2) / 2)
    · rw [if_pos e]
      right
      refine ⟨?_, .inr (by omega)⟩
      rcases ih with ih | ih
      · rw [← ih]; exact e.1
      · exact ih.1
    · rw [if_neg e]; exact ih
/-- Words with a size stand in the row of this size. -/
theorem inRows {n : Nat} (hn : n ≤ 3) : ∀ m f, 1 ≤ gt (stt n m).1 f → ∃ a : Nat, gt (stt n m).1 f = a ∧ 1 ≤ a ∧ a < m + 2 ∧ f ∈ (stt n m).2.getD a []
  | 0, f, h => by
    have hl := (lock0 hn).l1
    rcases Nat.lt_or_ge f (2 ^ 2 ^ n) with hf | hf
    · have := List.all_eq_true.1 (same0 n hn).2.1 f (List.mem_range.2 hf)
      simp only [Bool.and_eq_true, Bool.or_eq_true, decide_eq_true_eq, beq_iff_eq] at this
      rcases this.2 with e | e
      · exact absurd h (by show ¬ 1 ≤ gt (varS n n).1 f; omega)
      · exact ⟨1, e.1, Nat.le_refl _, by omega, List.contains_iff_mem.1 e.2⟩
    · have h' : 1 ≤ gt (varS n n).1 f := h
      rw [past_gt (by omega)] at h'; omega
  | m + 1, f, h => by
    obtain ⟨h1, h2, h3⟩ := round hn m
    rw [h1 f] at h ⊢
    by_cases e : gt (stt n m).1 f < 0 ∧ f ∈ wordsR (m + 2) ((stt n m).2 ++ [[]]) ((m + 2) / 2)
    · rw [if_pos e]
      exact ⟨m + 2, rfl, by omega, by omega, (h3 f).2 e⟩
    · rw [if_neg e] at h ⊢
      obtain ⟨a, ha, ha1, ha2, hm⟩ := inRows hn m f h
      exact ⟨a, ha, ha1, by omega, by rw [h2 a ha2]; exact hm⟩
theorem stays {n : Nat} (hn : n ≤ 3) {m m' y : Nat} (h : m ≤ m') (h0 : 0 ≤ gt (stt n m).1 y) : gt (stt n m').1 y = gt (stt n m).1 y := by
  obtain ⟨d, rfl⟩ := Nat.exists_eq_add_of_le h
  rcases late hn m y d with h1 | h1
  · exact h1
  · omega
theorem known {n : Nat} (hn : n ≤ 3) {k w : Nat} (h : Rch n k w) : 1 ≤ k ∧ ∀ m, k ≤ m + 1 → 0 ≤ gt (stt n m).1 w := by
  have one : ∀ i, i < n → 0 ≤ gt (stt n 0).1 (vw n i) ∧ 0 ≤ gt (stt n 0).1 (vw n i ^^^ full n) := by
    obtain rfl | rfl | rfl | rfl : n = 0 ∨ n = 1 ∨ n = 2 ∨ n = 3 := by omega
    all_goals decide +kernel
  induction h with
  | var i hi => exact ⟨Nat.le_refl _, fun m _ => by rw [stays hn (Nat.zero_le m) (one i hi).1]; exact (one i hi).1⟩
  | nvar i hi => exact ⟨Nat.le_refl _, fun m _ => by rw [stays hn (Nat.zero_le m) (one i hi).2]; exact (one i hi).2⟩
  | op a b f g o hf hg h1 h2 ih1 ih2 =>
    refine ⟨by omega, fun m hm => ?_⟩
    -- sizes of both parts
    have size : ∀ (c x : Nat), 1 ≤ c → (0 < x ∧ x < full n) → (∀ m, c ≤ m + 1 → 0 ≤ gt (stt n m).1 x) → ∃ a : Nat, 1 ≤ a ∧ a ≤ c ∧ (∀ m, a ≤ m + 1 → gt (stt n m).1 x = a) ∧ ∀ m, a ≤ m + 1 → x ∈ (stt n m).2.getD a [] := fun c x hc hx hk => by
      have hk1 := hk (c - 1) (by omega)
      have hne : gt (stt n (c - 1)).1 x ≠ 0 := (lockN hn (c - 1)).pos x hx.1 hx.2
      obtain ⟨a, ha, ha1, ha2, _⟩ := inRows hn (c - 1) x (by omega)
      have told : ∀ m, a ≤ m + 1 → gt (stt n m).1 x = a := fun m hm => by
        rcases Nat.le_total m (c - 1) with hle | hle
        · obtain ⟨d, hd⟩ := Nat.exists_eq_add_of_le hle
          have hl := late hn m x d
          rw [← hd, ha] at hl
          rcases hl with hl | hl
          · exact hl.symm
          · rcases hl.2 with h3 | h3 <;> omega
        · rw [stays hn hle hk1, ha]
      refine ⟨a, ha1, by omega, told, fun m hm => ?_⟩
      obtain ⟨a', ha', _, _, hin⟩ := inRows hn m x (by rw [told m hm]; omega)
      rw [told m hm] at ha'
      have : a' = a := by omega
      rw [this] at hin; exact hin
    obtain ⟨a', a1, a2, ta, ra⟩ := size a f ih1.1 hf ih1.2
    obtain ⟨b', b1, b2, tb, rb⟩ := size b g ih2.1 hg ih2.2
    -- the round of the sum
    have hround : 0 ≤ gt (stt n (a' + b' - 2 + 1)).1 (cond o (f &&& g) (f ||| g)) := by
      obtain ⟨h3, _, _⟩ := round hn (a' + b' - 2)
      rw [h3]
      by_cases e : gt (stt n (a' + b' - 2)).1 (cond o (f &&& g) (f ||| g)) < 0 ∧ (cond o (f &&& g) (f ||| g)) ∈ wordsR (a' + b' - 2 + 2) ((stt n (a' + b' - 2)).2 ++ [[]]) ((a' + b' - 2 + 2) / 2)
      · rw [if_pos e]; omega
      · rw [if_neg e]
        rcases Int.lt_or_le (gt (stt n (a' + b' - 2)).1 (cond o (f &&& g) (f ||| g))) 0 with hlt | hle
        · refine absurd ⟨hlt, ?_⟩ e
          have hb := (lockN hn (a' + b' - 2)).b1
          rw [words_same (byz := (stt n (a' + b' - 2)).2) (by omega) (fun _ _ _ => Iff.rfl) hb, mem_words]
          refine ⟨a' - 1, by omega, f, ?_, g, ?_, by cases o <;> simp⟩
          · rw [show a' - 1 + 1 = a' by omega]; exact ra _ (by omega)
          · rw [show a' + b' - 2 + 2 - (a' - 1 + 1) = b' by omega]; exact rb _ (by omega)
        · exact hle
    rw [stays hn (by omega : a' + b' - 2 + 1 ≤ m) hround]
    exact hround
theorem outer_at {n : Nat} : ∀ (F m : Nat), (∃ j, j < F ∧ (stt n (m + j)).1.contains (-1) = false) → ∃ j, outer F (m + 2) (stt n m) = some (stt n (m + j)).1
  | 0, _, ⟨_, h, _⟩ => absurd h (Nat.not_lt_zero _)
  | F + 1, m, ⟨j, hj, hc⟩ => by
    unfold outer
    cases hb : (stt n m).1.contains (-1) with
    | false => exact ⟨0, rfl⟩
    | true =>
      rw [cond_true]
      cases j with
      | zero => rw [Nat.add_zero, hb] at hc; cases hc
      | succ j =>
        obtain ⟨j', h⟩ := outer_at F (m + 1) ⟨j, by omega, by rw [show m + 1 + j = m + (j + 1) by omega]; exact hc⟩
        exact ⟨j' + 1, by rw [show m + (j' + 1) = m + 1 + j' by omega]; exact h⟩
/-- Both tables of sizes are the same. -/
theorem sizes_eq {n : Nat} (hn : n ≤ 3) : ∃ T, sizesI n = some T ∧ sizesZ n = some T := by
  have hend : (stt n 12).1.contains (-1) = false := by
    have h := lockN hn 12
    rw [contains_neg h.neg1]
    refine decide_eq_false fun hpos => ?_
    unfold neg at hpos
    rw [List.countP_pos_iff] at hpos
    obtain ⟨x, hx, hlt⟩ := hpos
    have hlt' : x < 0 := by simpa using hlt
    obtain ⟨i, hi, rfl⟩ := List.mem_iff_getElem.1 hx
    have e : gt (stt n 12).1 i = (stt n 12).1[i] := by simp [gt, List.getD, hi]
    rw [← e] at hlt'
    have hil : i < 2 ^ 2 ^ n := by rw [← h.l1]; exact hi
    rcases Nat.eq_zero_or_pos i with rfl | h0
    · rw [h.c0] at hlt'; omega
    · rcases Nat.lt_or_ge i (2 ^ 2 ^ n - 1) with h1 | h1
      · obtain ⟨k, hk, hr⟩ := reach hn h0 (by unfold full; exact h1)
        have := (known hn hr).2 12 (by omega)
        omega
      · rw [show i = 2 ^ 2 ^ n - 1 by omega, h.cf] at hlt'; omega
  obtain ⟨j, hj⟩ := outer_at (n := n) 40 0 ⟨12, by omega, by rw [Nat.zero_add]; exact hend⟩
  have h1 : sizesI n = some (stt n (0 + j)).1 := hj
  refine ⟨_, h1, ?_⟩
  rw [← h1]
  unfold sizesI sizesZ full
  exact (lock_outer hn rfl 40 2 _ _ _ _ _ (Nat.le_refl _) (lock0 hn)).symm
end Go.Proofs.YtmhlcbibbhelkaaDoor
