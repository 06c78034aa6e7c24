/- Plain laws of the texts: the rank of rows modulo 2. -/
import Derived.Test.YtfdggelojmofmaaDoorP65
namespace Go.Proofs.YtfdggelojmofmaaDoor
open Go.Rv
set_option linter.unusedVariables false
variable {β : Type}
/-! ### Lengths -/
def bl (x : Nat) : Nat := if x = 0 then 0 else x.log2 + 1
theorem bl_pos {x : Nat} (h : x ≠ 0) : bl x = x.log2 + 1 := if_neg h
theorem bl_top {x : Nat} (h : x ≠ 0) : x.testBit (bl x - 1) = true := by rw [bl_pos h, Nat.add_sub_cancel]; exact Nat.testBit_log2 h
theorem bl_over {x i : Nat} (h : bl x ≤ i) : x.testBit i = false := by
  by_cases h0 : x = 0
  · rw [h0, Nat.zero_testBit]
  · rw [bl_pos h0] at h
    exact Nat.testBit_lt_two_pow (Nat.lt_of_lt_of_le Nat.lt_log2_self (Nat.pow_le_pow_right (by decide) h))
theorem bl_eq {x t : Nat} (h1 : x.testBit t = true) (h2 : ∀ i, t < i → x.testBit i = false) : bl x = t + 1 ∧ x ≠ 0 := by
  have h0 : x ≠ 0 := fun e => by rw [e, Nat.zero_testBit] at h1; cases h1
  have ha : t < bl x := by
    rcases Nat.lt_or_ge t (bl x) with h | h
    · exact h
    · rw [bl_over h] at h1; cases h1
  have hb : bl x - 1 ≤ t := by
    rcases Nat.lt_or_ge t (bl x - 1) with h | h
    · have := h2 _ h
      rw [bl_top h0] at this; cases this
    · exact h
  exact ⟨by omega, h0⟩
theorem bl_le {x t : Nat} (h : ∀ i, t ≤ i → x.testBit i = false) : bl x ≤ t := by
  by_cases h0 : x = 0
  · rw [h0]; exact Nat.zero_le _
  · rcases Nat.lt_or_ge t (bl x) with h1 | h1
    · have := h (bl x - 1) (by omega)
      rw [bl_top h0] at this; cases this
    · exact h1
theorem bl_xor_lt {x y : Nat} (hx : x ≠ 0) (hy : y ≠ 0) (h : bl x = bl y) : bl (x ^^^ y) < bl x := by
  have hp : 0 < bl x := by rw [bl_pos hx]; omega
  have := bl_le (x := x ^^^ y) (t := bl x - 1) fun i hi => by
    rw [Nat.testBit_xor]
    rcases Nat.eq_or_lt_of_le hi with rfl | hi
    · rw [bl_top hx, h, bl_top hy]; rfl
    · rw [bl_over (by omega), bl_over (by omega)]; rfl
  omega
theorem bl_xor_max {x y : Nat} (hy : y ≠ 0) (h : bl x < bl y) : bl (x ^^^ y) = bl y := by
  have hp : 0 < bl y := by omega
  have := (bl_eq (x := x ^^^ y) (t := bl y - 1) (by rw [Nat.testBit_xor, bl_top hy, bl_over (by omega)]; rfl) fun i hi => by
    rw [Nat.testBit_xor, bl_over (by omega), bl_over (by omega)]; rfl).1
  omega
theorem bl_lt_pow {x t : Nat} (h : x < 2 ^ t) : bl x ≤ t := bl_le fun i hi => Nat.testBit_lt_two_pow (Nat.lt_of_lt_of_le h (Nat.pow_le_pow_right (by decide) hi))
theorem lt_of_top {x y t : Nat} (hx : x.testBit t = false) (hy : y.testBit t = true) (h : ∀ i, t < i → x.testBit i = y.testBit i) : x < y := by
  have hd : x / 2 ^ (t + 1) = y / 2 ^ (t + 1) := Nat.eq_of_testBit_eq fun i => by rw [Nat.testBit_div_two_pow, Nat.testBit_div_two_pow]; exact h _ (by omega)
  have hxm : x % 2 ^ (t + 1) < 2 ^ t := Nat.lt_pow_two_of_testBit _ fun i hi => by
    rw [Nat.testBit_mod_two_pow]
    rcases Nat.eq_or_lt_of_le hi with rfl | hi
    · rw [hx, Bool.and_false]
    · rw [decide_eq_false (by omega), Bool.false_and]
  have hym : 2 ^ t ≤ y % 2 ^ (t + 1) := by
    rcases Nat.lt_or_ge (y % 2 ^ (t + 1)) (2 ^ t) with h1 | h1
    · have := Nat.testBit_lt_two_pow h1
      rw [Nat.testBit_mod_two_pow, hy, decide_eq_true (by omega)] at this
      cases this
    · exact h1
  have e1 := Nat.div_add_mod x (2 ^ (t + 1))
  have e2 := Nat.div_add_mod y (2 ^ (t + 1))
  rw [hd] at e1
  omega

/-! ### What numbers span -/
def spB : List Nat → Nat → Bool
  | [], x => x == 0
  | b :: l, x => spB l x || spB l (x ^^^ b)
theorem sp_zero : ∀ l, spB l 0 = true
  | [] => rfl
  | b :: l => by simp only [spB, sp_zero l, Bool.true_or]
theorem xor4 (x y b : Nat) : (x ^^^ b) ^^^ (y ^^^ b) = x ^^^ y := by
  rw [Nat.xor_assoc, Nat.xor_comm y b, ← Nat.xor_assoc b b y, Nat.xor_self, Nat.zero_xor]
theorem sp_xor : ∀ l {x y : Nat}, spB l x = true → spB l y = true → spB l (x ^^^ y) = true
  | [], x, y, hx, hy => by simp only [spB, beq_iff_eq] at hx hy ⊢; rw [hx, hy]; rfl
  | b :: l, x, y, hx, hy => by
    simp only [spB, Bool.or_eq_true] at hx hy ⊢
    rcases hx with hx | hx <;> rcases hy with hy | hy
    · exact .inl (sp_xor l hx hy)
    · right; rw [Nat.xor_assoc]; exact sp_xor l hx hy
    · right
      have := sp_xor l hx hy
      rwa [Nat.xor_assoc, Nat.xor_comm b y, ← Nat.xor_assoc] at this
    · left
      have := sp_xor l hx hy
      rwa [xor4] at this
theorem xor_back (x y : Nat) : (x ^^^ y) ^^^ y = x := by rw [Nat.xor_assoc, Nat.xor_self, Nat.xor_zero]
/-- Numbers that differ by what is spanned. -/
theorem sp_same {l : List Nat} {x y : Nat} (h : spB l (x ^^^ y) = true) : spB l x = spB l y := by
  rw [Bool.eq_iff_iff]
  constructor
  · intro hx
    have := sp_xor l h hx
    rwa [Nat.xor_comm x y, xor_back] at this
  · intro hy
    have := sp_xor l h hy
    rwa [xor_back] at this
theorem sp_mem : ∀ {l : List Nat} {b : Nat}, b ∈ l → spB l b = true
  | c :: l, b, h => by
    simp only [spB, Bool.or_eq_true]
    rcases List.mem_cons.1 h with rfl | h
    · right; rw [Nat.xor_self]; exact sp_zero l
    · exact .inl (sp_mem h)
theorem sp_snoc : ∀ (l : List Nat) (b x : Nat), spB (l ++ [b]) x = spB (b :: l) x
  | [], b, x => rfl
  | c :: l, b, x => by
    rw [List.cons_append, spB, sp_snoc l b x, sp_snoc l b (x ^^^ c)]
    simp only [spB]
    rw [Nat.xor_assoc x c b, Nat.xor_comm c b, ← Nat.xor_assoc]
    cases spB l x <;> cases spB l (x ^^^ b) <;> cases spB l (x ^^^ c) <;> rfl
/-- How many of the rows are spanned by none before them. -/
def rkn : List Nat → List Nat → Nat
  | _, [] => 0
  | done, r :: rest => (if spB done r then 0 else 1) + rkn (r :: done) rest
theorem rkn_le : ∀ rest done, rkn done rest ≤ rest.length
  | [], _ => Nat.le_refl _
  | r :: rest, done => by
    have := rkn_le rest (r :: done)
    simp only [rkn, List.length_cons]
    split <;> omega
theorem sp_put {l done : List Nat} (h : ∀ x, spB l x = spB done x) {r y : Nat} (hy : spB l (r ^^^ y) = true) : ∀ x, spB (l ++ [y]) x = spB (r :: done) x := fun x => by
  rw [sp_snoc]
  simp only [spB]
  rw [h x, ← h (x ^^^ r)]
  congr 1
  exact sp_same (by rw [Nat.xor_comm x y, Nat.xor_comm x r, xor4, Nat.xor_comm]; exact hy)
theorem sp_in {l done : List Nat} (h : ∀ x, spB l x = spB done x) {r : Nat} (hr : spB l r = true) : ∀ x, spB l x = spB (r :: done) x := fun x => by
  simp only [spB]
  rw [← h x, ← h (x ^^^ r), sp_same (x := x ^^^ r) (y := x) (by rw [Nat.xor_comm x r, xor_back]; exact hr), Bool.or_self]

/-! ### The reference's -/
def mnx (x b : Nat) : Nat := if (x ^^^ b) < x then x ^^^ b else x
def red (l : List Nat) (x : Nat) : Nat := l.foldl mnx x
/-- Each has no first bit of one before it. -/
def Tri : List Nat → Prop
  | [] => True
  | b :: l => b ≠ 0 ∧ (∀ c ∈ l, c.testBit (bl b - 1) = false) ∧ Tri l
theorem mnx_bit {b : Nat} (hb : b ≠ 0) (x : Nat) : (mnx x b).testBit (bl b - 1) = false := by
  have ht := bl_top hb
  have hov : ∀ i, bl b - 1 < i → b.testBit i = false := fun i hi => bl_over (by omega)
  unfold mnx
  cases hx : x.testBit (bl b - 1) with
  | true =>
    have h1 : (x ^^^ b).testBit (bl b - 1) = false := by rw [Nat.testBit_xor, hx, ht]; rfl
    rw [if_pos (lt_of_top h1 hx fun i hi => by rw [Nat.testBit_xor, hov i hi, Bool.xor_false])]
    exact h1
  | false =>
    have h1 : (x ^^^ b).testBit (bl b - 1) = true := by rw [Nat.testBit_xor, hx, ht]; rfl
    have h2 := lt_of_top hx h1 fun i hi => by rw [Nat.testBit_xor, hov i hi, Bool.xor_false]
    rw [if_neg (by omega)]
    exact hx
theorem mnx_keep {b t : Nat} (hb : b.testBit t = false) (x : Nat) : (mnx x b).testBit t = x.testBit t := by
  unfold mnx
  split
  · rw [Nat.testBit_xor, hb, Bool.xor_false]
  · rfl
theorem red_keep : ∀ {l : List Nat} {t : Nat}, (∀ c ∈ l, c.testBit t = false) → ∀ x, (red l x).testBit t = x.testBit t
  | [], _, _, _ => rfl
  | b :: l, t, h, x => by
    show (red l (mnx x b)).testBit t = _
    rw [red_keep (fun c hc => h c (List.mem_cons_of_mem _ hc)), mnx_keep (h b List.mem_cons_self)]
theorem red_bits : ∀ {l : List Nat}, Tri l → ∀ x, ∀ b ∈ l, (red l x).testBit (bl b - 1) = false
  | c :: l, ⟨h1, h2, h3⟩, x, b, hb => by
    show (red l (mnx x c)).testBit _ = _
    rcases List.mem_cons.1 hb with rfl | hb
    · rw [red_keep h2, mnx_bit h1]
    · exact red_bits h3 _ b hb
theorem red_sp : ∀ (l : List Nat) (x : Nat), spB l (x ^^^ red l x) = true
  | [], x => by show (x ^^^ x == 0) = true; rw [Nat.xor_self]; rfl
  | b :: l, x => by
    have ih := red_sp l (mnx x b)
    show spB (b :: l) (x ^^^ red l (mnx x b)) = true
    simp only [spB, Bool.or_eq_true]
    unfold mnx at ih ⊢
    split
    · rename_i h
      rw [if_pos h] at ih
      right
      rw [Nat.xor_assoc, Nat.xor_comm _ b, ← Nat.xor_assoc]
      exact ih
    · rename_i h
      rw [if_neg h] at ih
      exact .inl ih
theorem sp_bit : ∀ {l : List Nat} {t x : Nat}, (∀ c ∈ l, c.testBit t = false) → spB l x = true → x.testBit t = false
  | [], t, x, _, h => by simp only [spB, beq_iff_eq] at h; rw [h, Nat.zero_testBit]
  | b :: l, t, x, hc, h => by
    simp only [spB, Bool.or_eq_true] at h
    have hl := fun c h => hc c (List.mem_cons_of_mem b h)
    rcases h with h | h
    · exact sp_bit hl h
    · have := sp_bit hl h
      rwa [Nat.testBit_xor, hc b List.mem_cons_self, Bool.xor_false] at this
theorem tri_zero : ∀ {l : List Nat} {y : Nat}, Tri l → spB l y = true → (∀ b ∈ l, y.testBit (bl b - 1) = false) → y = 0
  | [], y, _, h, _ => by simpa [spB] using h
  | b :: l, y, ⟨h1, h2, h3⟩, h, hb => by
    simp only [spB, Bool.or_eq_true] at h
    rcases h with h | h
    · exact tri_zero h3 h fun c hc => hb c (List.mem_cons_of_mem _ hc)
    · have h4 := sp_bit h2 h
      rw [Nat.testBit_xor, hb b List.mem_cons_self, bl_top h1] at h4
      cases h4
theorem tri_snoc : ∀ {l : List Nat} {y : Nat}, Tri l → y ≠ 0 → (∀ b ∈ l, y.testBit (bl b - 1) = false) → Tri (l ++ [y])
  | [], y, _, hy, _ => ⟨hy, fun c hc => (by cases hc), trivial⟩
  | b :: l, y, ⟨h1, h2, h3⟩, hy, hb => by
    refine ⟨h1, fun c hc => ?_, tri_snoc h3 hy fun c hc => hb c (List.mem_cons_of_mem _ hc)⟩
    rcases List.mem_append.1 hc with hc | hc
    · exact h2 c hc
    · simp only [List.mem_singleton] at hc
      subst hc
      exact hb b List.mem_cons_self
theorem red_lt : ∀ {l : List Nat} {x : Nat}, x < 65536 → red l x < 65536
  | [], x, h => h
  | b :: l, x, h => by
    refine red_lt (l := l) ?_
    unfold mnx
    split <;> omega

theorem mnI_nat (x b : Nat) (hx : x < 65536) (hb : b < 65536) : mnI (x : Int) (bits .xor .i64 (x : Int) (b : Int)) = (mnx x b : Int) := by
  rw [bXor x b (by omega) (by omega)]
  unfold mnI mnx
  by_cases h : (x ^^^ b) < x
  · rw [if_pos (by omega), if_pos h]
  · rw [if_neg (by omega), if_neg h]
theorem spec_RankMod2_n (N : Nat) (hN : 64 < N) (L : List Nat) (hL : L.length ≤ 16) (hb : ∀ r ∈ L, r < 65536) (K : Int → Option β) : zj29 N (li L) K = K (rkn [] L : Int) := by
  have hg : ∀ {l : List Nat}, (∀ r ∈ l, r < 65536) → ∀ i, l.getD i 0 < 65536 := fun {l} h i => by
    rw [List.getD_eq_getElem?_getD]
    cases hi : l[i]? with
    | none => show 0 < 65536; decide
    | some r => exact h r (List.mem_of_getElem? hi)
  have inner : ∀ (l : List Nat), l.length ≤ 16 → (∀ r ∈ l, r < 65536) → ∀ (x : Nat), x < 65536 → ∀ (v0 : List Int) (i : Int) (K0 : List Int → Int → Int → List Int → Option β),
      zj26 N N v0 i (x : Int) 0 (li l) K0 = K0 v0 i (red l x : Int) (li l) := fun l hl hlb x hx v0 i K0 => by
    have e : red (l.take l.length) x = red l x := by rw [List.take_length]
    rw [← e]
    refine loop_st (fun F j => zj26 N F v0 i (red (l.take j) x : Int) (j : Int) (li l) K0) l.length _ (fun F j hj => ?_) (fun F => ?_) N 0 (by omega) (by omega)
    · simp only [zj26, zj25, li_len, li_rd]
      rw [decide_eq_true (by omega : (j : Int) < (l.length : Int)), decide_eq_true (by omega : (0 : Int) ≤ (j : Int)), w64_succ j (by omega), mnI_nat _ _ (red_lt hx) (hg hlb j), take_snoc l j hj]
      simp only [cond_true, gd, red, List.foldl_append, List.foldl_cons, List.foldl_nil]
    · simp only [zj26, zj25, li_len]
      rw [decide_eq_false (by omega), cond_false]
  unfold zj29
  have main : ∀ (d F i : Nat) (l done : List Nat), i + d = L.length → d < F → l.length ≤ i → (∀ r ∈ l, r < 65536) → Tri l → (∀ x, spB l x = spB done x) →
      zj28 N F (li L) (i : Int) (li l) (fun e => K e) (fun e => K (e.length : Int)) = K ((l.length + rkn done (L.drop i) : Nat) : Int) := by
    intro d
    induction d with
    | zero =>
      intro F i l done hi hF _ _ _ _
      obtain ⟨G, rfl⟩ : ∃ G, F = G + 1 := ⟨F - 1, by omega⟩
      simp only [zj28, zj27, li_len]
      rw [decide_eq_false (by omega), cond_false, List.drop_eq_nil_of_le (by omega)]
      rfl
    | succ d ih =>
      intro F i l done hi hF hl hlb htr hsp
      obtain ⟨G, rfl⟩ : ∃ G, F = G + 1 := ⟨F - 1, by omega⟩
      have hil : i < L.length := by omega
      have hr := hg hb i
      have hin := inner l (by omega) hlb (L.getD i 0) hr
      simp only [zj28, zj27, li_len, li_rd, spec_l1In_eq, hin]
      rw [decide_eq_true (by omega : (i : Int) < (L.length : Int)), decide_eq_true (by omega : (0 : Int) ≤ (i : Int)), decide_eq_true (by omega : (0 : Int) ≤ ((L.getD i 0 : Nat) : Int)), decide_eq_true (by omega : ((L.getD i 0 : Nat) : Int) ≤ 4294967295), decide_eq_false (by omega : ¬ (i : Int) > 31), drop_cons' L i hil, rkn]
      simp only [cond_true, gd, Bool.and_self, Bool.not_true, cond_false, List.nil_append]
      have hsr := red_sp l (L.getD i 0)
      have hbits := red_bits htr (L.getD i 0)
      generalize L.getD i 0 = r at hr hsr hbits ⊢
      have hred := red_lt (l := l) hr
      by_cases h0 : red l r = 0
      · have hin2 : spB l r = true := by
          have := hsr
          rw [h0, Nat.xor_zero] at this
          exact this
        rw [h0, decide_eq_false (by decide), cond_false, ← hsp, hin2, if_pos rfl, w64_succ i (by omega), ih G (i + 1) l (r :: done) (by omega) (by omega) (by omega) hlb htr (sp_in hsp hin2), Nat.zero_add]
      · have hout : spB l r = false := by
          cases hq : spB l r with
          | false => rfl
          | true =>
            have h1 := sp_same hsr
            rw [hq] at h1
            exact absurd (tri_zero htr h1.symm hbits) h0
        rw [decide_eq_true (by omega), cond_true, ← hsp, hout, if_neg (by decide), w64_succ i (by omega), decide_eq_true (by simp only [List.length_cons, List.length_nil]; omega), cond_true, ← li_snoc]
        rw [ih G (i + 1) (l ++ [red l r]) (r :: done) (by omega) (by omega) (by simp; omega) (fun c hc => ?_) (tri_snoc htr h0 hbits) (sp_put hsp hsr)]
        · simp only [List.length_append, List.length_cons, List.length_nil]
          congr 2
          omega
        · rcases List.mem_append.1 hc with hc | hc
          · exact hlb c hc
          · simp only [List.mem_singleton] at hc; omega
  have := main L.length N 0 [] [] (by omega) (by omega) (Nat.le_refl _) (fun r hr => by cases hr) trivial (fun x => rfl)
  simpa [li] using this

/-! ### The program's -/
/-- A map of leading rows. -/
def lead (vs : List Nat) : Mp := vs.map fun v : Nat => ((((bl v : Nat) : Int), (0 : Int)), (v : Int))
def Dst : List Nat → Prop
  | [] => True
  | b :: l => b ≠ 0 ∧ (∀ c ∈ l, bl c ≠ bl b) ∧ Dst l
theorem dst_top : ∀ {l : List Nat} {y : Nat}, Dst l → spB l y = true → y ≠ 0 → ∃ b ∈ l, bl b = bl y
  | [], y, _, h, h0 => by simp only [spB, beq_iff_eq] at h; exact absurd h h0
  | b :: l, y, ⟨h1, h2, h3⟩, h, h0 => by
    simp only [spB, Bool.or_eq_true] at h
    rcases h with h | h
    · obtain ⟨c, hc, e⟩ := dst_top h3 h h0
      exact ⟨c, List.mem_cons_of_mem _ hc, e⟩
    · by_cases hz : y ^^^ b = 0
      · have : y = b := by
          have := xor_back y b
          rw [hz, Nat.zero_xor] at this
          exact this.symm
        exact ⟨b, List.mem_cons_self, by rw [this]⟩
      · obtain ⟨c, hc, e⟩ := dst_top h3 h hz
        have hne : bl (y ^^^ b) ≠ bl b := by rw [← e]; exact h2 c hc
        have hy : (y ^^^ b) ^^^ b = y := xor_back y b
        rcases Nat.lt_or_ge (bl (y ^^^ b)) (bl b) with hlt | hge
        · have := bl_xor_max h1 hlt
          rw [hy] at this
          exact ⟨b, List.mem_cons_self, this.symm⟩
        · have := bl_xor_max (x := b) hz (by omega)
          rw [Nat.xor_comm, hy] at this
          exact ⟨c, List.mem_cons_of_mem _ hc, by rw [e, this]⟩
theorem dst_snoc : ∀ {l : List Nat} {y : Nat}, Dst l → y ≠ 0 → (∀ b ∈ l, bl b ≠ bl y) → Dst (l ++ [y])
  | [], y, _, hy, _ => ⟨hy, fun c hc => (by cases hc), trivial⟩
  | b :: l, y, ⟨h1, h2, h3⟩, hy, hb => by
    refine ⟨h1, fun c hc => ?_, dst_snoc h3 hy fun c hc => hb c (List.mem_cons_of_mem _ hc)⟩
    rcases List.mem_append.1 hc with hc | hc
    · exact h2 c hc
    · simp only [List.mem_singleton] at hc
      subst hc
      exact fun e => hb b List.mem_cons_self e.symm
theorem lead_has : ∀ (vs : List Nat) (t : Nat), (hasM ⟨false, false⟩ (lead vs) (t : Int) 0 = true ↔ ∃ v ∈ vs, bl v = t) ∧
    (∀ v ∈ vs, bl v = t → ∃ u ∈ vs, bl u = t ∧ getM ⟨false, false⟩ (lead vs) (t : Int) 0 = (u : Int)) ∧
    ((∀ v ∈ vs, bl v ≠ t) → ∀ y : Nat, bl y = t → putM ⟨false, false⟩ (lead vs) (t : Int) 0 (y : Int) = lead (vs ++ [y]))
  | [], t => ⟨⟨(fun h => by cases h), (fun ⟨v, h, _⟩ => by cases h)⟩, (fun v h => by cases h), (fun _ y hy => by simp [lead, putM, hy])⟩
  | v :: vs, t => by
    obtain ⟨h1, h2, h3⟩ := lead_has vs t
    have ev : (((bl v : Nat) : Int) == (t : Int)) = decide (bl v = t) := by
      rw [Bool.eq_iff_iff, beq_iff_eq, decide_eq_true_eq]; exact Int.ofNat_inj
    unfold lead at h1 h2 h3 ⊢
    simp only [List.map_cons, hasM, getM, putM, eqK, Bool.not_false, Bool.true_or, Bool.and_true, ev, Bool.or_eq_true, decide_eq_true_eq, h1]
    by_cases hv : bl v = t
    · rw [decide_eq_true hv]
      exact ⟨⟨fun _ => ⟨v, List.mem_cons_self, hv⟩, fun _ => .inl hv⟩, fun u _ _ => ⟨v, List.mem_cons_self, hv, rfl⟩, fun h => absurd hv (h v List.mem_cons_self)⟩
    · rw [decide_eq_false hv]
      refine ⟨⟨fun h => ?_, fun ⟨u, hu, e⟩ => ?_⟩, fun u hu e => ?_, fun h y hy => ?_⟩
      · rcases h with h | ⟨u, hu, e⟩
        · exact absurd h hv
        · exact ⟨u, List.mem_cons_of_mem _ hu, e⟩
      · rcases List.mem_cons.1 hu with rfl | hu
        · exact absurd e hv
        · exact .inr ⟨u, hu, e⟩
      · rcases List.mem_cons.1 hu with rfl | hu
        · exact absurd e hv
        · obtain ⟨u', a1, a2, a3⟩ := h2 u hu e
          exact ⟨u', List.mem_cons_of_mem _ a1, a2, a3⟩
      · have := h3 (fun u hu => h u (List.mem_cons_of_mem _ hu)) y hy
        rw [cond_false, this]
        rfl

theorem len8_size : len8.size = 256 := by decide +kernel
theorem len8_bt : ∀ i : Nat, i < 256 → bt len8 (i : Int) = (bl i : Int) := by decide +kernel
theorem bl_256 (x : Nat) (h : 256 ≤ x) : bl x = 8 + bl (x / 256) := by
  have h1 : x ≠ 0 := by omega
  have h2 : x / 256 ≠ 0 := by omega
  rw [bl_pos h1, bl_pos h2]
  have h3 := (Nat.log2_eq_iff h2).1 rfl
  have e8 : (2 : Nat) ^ 8 = 256 := rfl
  have e : x.log2 = (x / 256).log2 + 8 := by
    generalize (x / 256).log2 = t at h3 ⊢
    refine (Nat.log2_eq_iff h1).2 ⟨?_, ?_⟩
    · rw [Nat.pow_add, e8]
      have := Nat.mul_le_mul_right 256 h3.1
      omega
    · rw [show t + 8 + 1 = (t + 1) + 8 by omega, Nat.pow_add, e8]
      have h6 : (x / 256 + 1) * 256 ≤ 2 ^ (t + 1) * 256 := Nat.mul_le_mul_right _ h3.2
      omega
  omega
theorem Len64_eq (N x : Nat) (h : x < 65536) (K : Int → Option β) : zj86 N (x : Int) K = K (bl x : Int) := by
  unfold zj86
  rw [decide_eq_false (by omega : ¬ (x : Int) ≥ 4294967296), cond_false, decide_eq_false (by omega : ¬ (x : Int) ≥ 65536), cond_false]
  rw [len8_size]
  by_cases h2 : 256 ≤ x
  · have hd : x / 256 < 256 := by omega
    have e : shrI .u64 (x : Int) 8 = ((x / 256 : Nat) : Int) := shrU x 8 (by decide)
    have hbl := bl_lt_pow (x := x / 256) (t := 8) hd
    rw [decide_eq_true (by omega), cond_true, e, w8_small _ hd, gd_true (decide_eq_true (by omega)), gd_true (decide_eq_true (by omega)), len8_bt _ hd, w64_nat _ (by omega), show (8 : Int) + ((bl (x / 256) : Nat) : Int) = ((8 + bl (x / 256) : Nat) : Int) by omega, w64_nat _ (by omega), ← bl_256 x h2]
  · have hd : x < 256 := by omega
    have hbl := bl_lt_pow (x := x) (t := 8) hd
    rw [decide_eq_false (by omega), cond_false, w8_small _ hd, gd_true (decide_eq_true (by omega)), gd_true (decide_eq_true (by omega)), len8_bt _ hd, w64_nat _ (by omega), show (0 : Int) + ((bl x : Nat) : Int) = (bl x : Int) by omega, w64_nat _ (by omega)]

theorem impl_reduce (N : Nat) (vs : List Nat) (hd : Dst vs) (hb : ∀ v ∈ vs, v < 65536) (v1 : List Int) (v2 v3 : Int) (K0 : List Int → Int → Int → Mp → Option β) : ∀ (F r : Nat), r < 65536 → bl r < F →
    ∃ y, y < 65536 ∧ spB vs (r ^^^ y) = true ∧ ((y = 0 ∧ zj88 N F (r : Int) v1 v2 v3 (lead vs) K0 = K0 v1 v2 v3 (lead vs)) ∨
      (y ≠ 0 ∧ (∀ v ∈ vs, bl v ≠ bl y) ∧ zj88 N F (r : Int) v1 v2 v3 (lead vs) K0 = K0 v1 v2 v3 (lead (vs ++ [y]))))
  | 0, r, _, h => by omega
  | F + 1, r, hr, hF => by
    by_cases h0 : r = 0
    · subst h0
      exact ⟨0, by decide, sp_zero vs, .inl ⟨rfl, rfl⟩⟩
    · obtain ⟨h1, h2, h3⟩ := lead_has vs (bl r)
      have e0 : (((r : Nat) : Int) != 0) = true := by
        unfold bne
        rw [beq_eq_false_iff_ne.2 (by omega)]
        rfl
      have estep : zj88 N (F + 1) (r : Int) v1 v2 v3 (lead vs) K0 = cond (!hasM ⟨false, false⟩ (lead vs) (bl r : Int) 0) (K0 v1 v2 v3 (putM ⟨false, false⟩ (lead vs) (bl r : Int) 0 (r : Int)))
          (zj88 N F (bits .xor .i64 (r : Int) (getM ⟨false, false⟩ (lead vs) (bl r : Int) 0)) v1 v2 v3 (lead vs) K0) := by
        simp only [zj88, zj87]
        rw [e0, cond_true, wu64_nat r (by omega), Len64_eq N r hr]
      cases hh : hasM ⟨false, false⟩ (lead vs) (bl r : Int) 0 with
      | false =>
        have hno : ∀ v ∈ vs, bl v ≠ bl r := fun v hv e => by
          rw [h1.2 ⟨v, hv, e⟩] at hh; cases hh
        refine ⟨r, hr, by rw [Nat.xor_self]; exact sp_zero vs, .inr ⟨h0, hno, ?_⟩⟩
        rw [estep, hh, Bool.not_false, cond_true, h3 hno r rfl]
      | true =>
        obtain ⟨v, hv, e⟩ := h1.1 hh
        obtain ⟨u, hu, e2, e3⟩ := h2 v hv e
        have hu0 : u ≠ 0 := fun e => by
          rw [e] at e2
          rw [bl_pos h0] at e2
          cases e2
        have hub := hb u hu
        have hx : r ^^^ u < 2 ^ 16 := Nat.xor_lt_two_pow hr hub
        have hlt := bl_xor_lt h0 hu0 e2.symm
        obtain ⟨y, hy, hs, hc⟩ := impl_reduce N vs hd hb v1 v2 v3 K0 F (r ^^^ u) hx (by omega)
        have hs2 : spB vs (r ^^^ y) = true := by
          have := sp_xor vs hs (sp_mem hu)
          rwa [Nat.xor_assoc r u y, Nat.xor_comm u y, ← Nat.xor_assoc, xor_back] at this
        rw [estep, hh, Bool.not_true, cond_false, e3, bXor r u (by omega) (by omega)]
        exact ⟨y, hy, hs2, hc⟩

theorem impl_RankMod2_n (N : Nat) (hN : 1048576 < N) (L : List Nat) (hL : L.length ≤ 16) (hb : ∀ r ∈ L, r < 65536) (K : Int → Option β) : zj91 N (li L) K = K (rkn [] L : Int) := by
  have hg : ∀ i, L.getD i 0 < 65536 := fun i => by
    rw [List.getD_eq_getElem?_getD]
    cases hi : L[i]? with
    | none => show 0 < 65536; decide
    | some r => exact hb r (List.mem_of_getElem? hi)
  unfold zj91
  rw [li_len, decide_eq_false (by omega), cond_false, ContainsFunc_mem N (li L) (by rw [li_len]; omega) hN _ (fun _ => false)]
  · rw [List.any_eq_false.2 (fun _ _ => by decide), cond_false]
    have main : ∀ (d F i : Nat) (vs done : List Nat), i + d = L.length → d < F → Dst vs → (∀ v ∈ vs, v < 65536) → (∀ x, spB vs x = spB done x) →
        zj90 N F (li L) (L.length : Int) (i : Int) (lead vs) (fun e => K (e.length : Int)) = K ((vs.length + rkn done (L.drop i) : Nat) : Int) := by
      intro d
      induction d with
      | zero =>
        intro F i vs done hi hF _ _ _
        obtain ⟨G, rfl⟩ : ∃ G, F = G + 1 := ⟨F - 1, by omega⟩
        simp only [zj90, zj89]
        rw [decide_eq_false (by omega), cond_false, List.drop_eq_nil_of_le (by omega)]
        simp [lead, rkn]
      | succ d ih =>
        intro F i vs done hi hF hd hvb hsp
        obtain ⟨G, rfl⟩ : ∃ G, F = G + 1 := ⟨F - 1, by omega⟩
        have hil : i < L.length := by omega
        have hbl := bl_lt_pow (x := L.getD i 0) (t := 16) (hg i)
        obtain ⟨y, hy, hs, hc⟩ := impl_reduce N vs hd hvb (li L) (L.length : Int) (i : Int) (fun e4_0 e4_1 e4_2 e4_3 => zj90 N G e4_0 e4_1 (w64 (e4_2 + 1)) e4_3 (fun e => K (e.length : Int))) N (L.getD i 0) (hg i) (by omega)
        simp only [zj90, zj89, li_len, li_rd]
        rw [decide_eq_true (by omega : (i : Int) < (L.length : Int)), decide_eq_true (by omega : (0 : Int) ≤ (i : Int))]
        simp only [cond_true, gd]
        rw [drop_cons' L i hil, rkn, ← hsp, sp_same hs]
        rcases hc with ⟨h0, e⟩ | ⟨h0, hno, e⟩
        · have hin : spB vs (L.getD i 0) = true := by rw [sp_same hs, h0]; exact sp_zero vs
          rw [e, w64_succ i (by omega), ih G (i + 1) vs (L.getD i 0 :: done) (by omega) (by omega) hd hvb (sp_in hsp hin), h0, sp_zero vs, if_pos rfl, Nat.zero_add]
        · have hout : spB vs y = false := by
            cases hq : spB vs y with
            | false => rfl
            | true =>
              obtain ⟨b, hbm, e⟩ := dst_top hd hq h0
              exact absurd e (hno b hbm)
          rw [e, w64_succ i (by omega), ih G (i + 1) (vs ++ [y]) (L.getD i 0 :: done) (by omega) (by omega) (dst_snoc hd h0 hno) (fun v hv => ?_) (sp_put hsp hs), hout, if_neg (by decide)]
          · simp only [List.length_append, List.length_cons, List.length_nil]
            congr 2
            omega
          · rcases List.mem_append.1 hv with hv | hv
            · exact hvb v hv
            · simp only [List.mem_singleton] at hv; omega
    have := main L.length N 0 [] [] (by omega) (by omega) trivial (fun v hv => by cases hv) (fun x => rfl)
    simpa [lead] using this
  · intro x hx K
    unfold li at hx
    obtain ⟨z, hz, rfl⟩ := List.mem_map.1 hx
    have := hb z hz
    show zj70 N ((z : Nat) : Int) K = K false
    unfold zj70
    have e : shrI .i64 (z : Int) 32 = ((z / 2 ^ 32 : Nat) : Int) := shr_nat z 32 (by omega)
    rw [decide_eq_false (by omega), cond_false, e, Nat.div_eq_of_lt (by omega)]
    rfl
end Go.Proofs.YtfdggelojmofmaaDoor
