/- Plain laws of the texts: block sensitivity. -/
import Derived.Test.YtdkjnadhgdneaaaP18
namespace Go.Proofs.Ytdkjnadhgdneaaa
open Go.Rv
set_option linter.unusedVariables false
variable {β : Type}
/-- Whether a block changes the value. -/
def ch (w x b : Nat) : Bool := w.testBit x != w.testBit (x ^^^ b)
theorem ch_zero (w x : Nat) : ch w x 0 = false := by simp [ch]
/-- The least blocks, as far as looked. -/
def sb (g : Nat → Bool) : Nat → List Nat
  | 0 => []
  | b + 1 => if g b && (sb g b).all (fun m => !(m &&& b == m)) then sb g b ++ [b] else sb g b
theorem sb_lt (g : Nat → Bool) : ∀ b, ∀ m ∈ sb g b, m < b
  | 0, m, h => by cases h
  | b + 1, m, h => by
    simp only [sb] at h
    split at h
    · rcases List.mem_append.1 h with h | h
      · have := sb_lt g b m h; omega
      · simp at h; omega
    · have := sb_lt g b m h; omega
theorem sb_len (g : Nat → Bool) : ∀ b, (sb g b).length ≤ b
  | 0 => by simp [sb]
  | b + 1 => by
    have := sb_len g b
    simp only [sb]
    split
    · simp; omega
    · omega
def ints (l : List Nat) : List Int := l.map (fun (m : Nat) => (m : Int))
theorem ints_len (l : List Nat) : (ints l).length = l.length := by simp [ints]
theorem ints_rd (l : List Nat) (i : Nat) (h : i < l.length) : rd 0 (ints l) (i : Int) = ((l[i] : Nat) : Int) := by
  rw [rd_nat 0 _ i (by rw [ints_len]; exact h)]
  simp [ints]

theorem block_lt : ∀ n, n ≤ 4 → ∀ x, x < 2 ^ n → ∀ b, b < 2 ^ n → x ^^^ b < 2 ^ n := by decide +kernel
theorem size4 {n : Nat} (h : n ≤ 4) : 2 ^ n ≤ 16 := Nat.le_trans (Nat.pow_le_pow_right (by decide) h) (by decide)

theorem spec_blocks_inner (N n w x b : Nat) (hb : b < 16) (l : List Nat) (hl : ∀ m ∈ l, m < 16) (hlen : l.length ≤ 16) (K : Int → Int → Bool → Int → Int → List Int → Option β) :
    ∀ (d F i : Nat) (v : Bool), i + d = l.length → d < F → spec_l10Blocks_l2 N F (x : Int) (b : Int) v (i : Int) (n : Int) (w : Int) (ints l) K = K x b (v && (l.drop i).all fun m => !(m &&& b == m)) n w (ints l) := by
  intro d
  induction d with
  | zero =>
    intro F i v hi hF
    obtain ⟨F, rfl⟩ : ∃ G, F = G + 1 := ⟨F - 1, by omega⟩
    simp only [spec_l10Blocks_l2, spec_l10Blocks_l2b, ints_len]
    rw [decide_eq_false (by omega : ¬ (i : Int) < (l.length : Int)), cond_false, List.drop_eq_nil_of_le (by omega)]
    simp
  | succ d ih =>
    intro F i v hi hF
    obtain ⟨F, rfl⟩ : ∃ G, F = G + 1 := ⟨F - 1, by omega⟩
    have hlt : i < l.length := by omega
    have hm := hl l[i] (List.getElem_mem hlt)
    simp only [spec_l10Blocks_l2, spec_l10Blocks_l2b, ints_len]
    rw [decide_eq_true (by omega : (i : Int) < (l.length : Int)), cond_true, w64_succ i (by omega), gd_true (decide_eq_true (by omega : (0 : Int) ≤ (i : Int))), gd_true rfl, gd_true (decide_eq_true (by omega : (0 : Int) ≤ (i : Int))), gd_true rfl, ints_rd l i hlt, bAnd _ b (by omega) (by omega), List.drop_eq_getElem_cons hlt]
    have e : (((l[i] &&& b : Nat) : Int) != ((l[i] : Nat) : Int)) = !(l[i] &&& b == l[i]) := by rw [bne, and_eq]
    rw [e, ih F (i + 1) _ (by omega) (by omega), ih F (i + 1) _ (by omega) (by omega), List.all_cons]
    cases v <;> simp

theorem spec_l10Blocks_eq (N : Nat) (hN : 64 < N) (n w x : Nat) (hn : n ≤ 4) (hw : w < 2 ^ 2 ^ n) (hx : x < 2 ^ n) (k : List Int → Option β) : spec_l10Blocks N (n : Int) (w : Int) (x : Int) k = k (ints (sb (ch w x) (2 ^ n))) := by
  have hs := size4 hn
  have hw' := two32 (by omega) hw
  unfold spec_l10Blocks
  have key : ∀ (F b : Nat), 2 ^ n - b < F → b ≤ 2 ^ n → spec_l10Blocks_l0 N F (x : Int) (b : Int) (n : Int) (w : Int) (ints (sb (ch w x) b)) k = k (ints (sb (ch w x) (2 ^ n))) := by
    intro F
    induction F with
    | zero => intro b h; omega
    | succ F ih =>
      intro b hF hb
      simp only [spec_l10Blocks_l0, spec_l10Blocks_l0b]
      rw [gd_true (decide_eq_true (by omega : (0 : Int) ≤ (n : Int))), shl_one n (by omega)]
      by_cases hlt : b < 2 ^ n
      · have hxb := block_lt n hn x hx b hlt
        have hsl := sb_len (ch w x) b
        have e := fun K => spec_blocks_inner (β := β) N n w x b (by omega) (sb (ch w x) b) (fun m hm => by have := sb_lt _ _ m hm; omega) (by omega) K (sb (ch w x) b).length N 0 true (by omega) (by omega)
        simp only [Int.natCast_zero, List.drop_zero, Bool.true_and] at e
        rw [decide_eq_true (by omega : (b : Int) < ((2 ^ n : Nat) : Int)), cond_true, gd_true (decide_eq_true (by omega : (0 : Int) ≤ (x : Int))), bXor x b (by omega) (by omega), gd_true (decide_eq_true (by omega : (0 : Int) ≤ ((x ^^^ b : Nat) : Int))), bit_at w x (by omega), bit_at w _ (by omega), bit_ne, e, w64_succ b (by omega), ints_len, gd_true (decide_eq_true (by simp; omega))]
        have h1 := ih (b + 1) (by omega) (by omega)
        have e2 : (w.testBit x == w.testBit (x ^^^ b)) = !ch w x b := by unfold ch; simp [bne]
        rw [e2]
        simp only [sb] at h1
        cases hc : ch w x b with
        | false => rw [hc] at h1; exact h1
        | true =>
          rw [hc, Bool.true_and] at h1
          rw [Bool.not_true, cond_false]
          cases ha : (sb (ch w x) b).all (fun m => !(m &&& b == m)) with
          | true =>
            rw [ha] at h1
            rw [cond_true]
            have e3 : ints (sb (ch w x) b) ++ (([] : List Int) ++ [(b : Int)]) = ints (sb (ch w x) b ++ [b]) := by simp [ints]
            rw [e3]
            exact h1
          | false => rw [ha] at h1; exact h1
      · rw [decide_eq_false (by omega : ¬ (b : Int) < ((2 ^ n : Nat) : Int)), cond_false, show b = 2 ^ n by omega]
  have h0 : sb (ch w x) 1 = [] := by simp [sb, ch_zero]
  have hpos := Nat.two_pow_pos n
  have := key N 1 (by omega) (by omega)
  rw [h0] at this
  exact this

/-- The greatest number of blocks of a list that have nothing in common. -/
def pk : List Nat → Nat → Nat
  | [], _ => 0
  | b :: l, u => if b &&& u == 0 then max (1 + pk l (u ||| b)) (pk l u) else pk l u
theorem pk_le : ∀ (l : List Nat) (u : Nat), pk l u ≤ l.length
  | [], _ => Nat.le_refl _
  | b :: l, u => by
    have h1 := pk_le l (u ||| b)
    have h2 := pk_le l u
    simp only [pk, List.length_cons]
    split <;> omega
theorem or_small : ∀ a, a < 16 → ∀ b, b < 16 → a ||| b < 16 := by decide +kernel
theorem spec_pack_f (N : Nat) (hN : 64 < N) (l : List Nat) (hl : ∀ m ∈ l, m < 16) (hlen : l.length ≤ 16) : ∀ (F i u : Nat), l.length - i < F → i ≤ l.length → u < 16 → ∀ k : Int → Option β, spec_l10Pack_f N F (ints l) (i : Int) (u : Int) k = k (pk (l.drop i) u : Int) := by
  intro F
  induction F with
  | zero => intro i u h; omega
  | succ F ih =>
    intro i u hF hi hu k
    simp only [spec_l10Pack_f, spec_l10Pack_b]
    have key : ∀ (d G j best : Nat), j + d = l.length → d < G → i ≤ j → best ≤ 16 → spec_l10Pack_l0 N (spec_l10Pack_f N F) G (ints l) (u : Int) (best : Int) (j : Int) k = k ((max best (pk (l.drop j) u) : Nat) : Int) := by
      intro d
      induction d with
      | zero =>
        intro G j best hj hG hij hbest
        obtain ⟨G, rfl⟩ : ∃ H, G = H + 1 := ⟨G - 1, by omega⟩
        simp only [spec_l10Pack_l0, spec_l10Pack_l0b, ints_len]
        rw [decide_eq_false (by omega : ¬ (j : Int) < (l.length : Int)), cond_false, List.drop_eq_nil_of_le (by omega)]
        simp [pk]
      | succ d ihd =>
        intro G j best hj hG hij hbest
        obtain ⟨G, rfl⟩ : ∃ H, G = H + 1 := ⟨G - 1, by omega⟩
        have hlt : j < l.length := by omega
        have hm := hl l[j] (List.getElem_mem hlt)
        have hor := or_small u hu l[j] hm
        have hpk := pk_le (l.drop (j + 1)) (u ||| l[j])
        rw [List.length_drop] at hpk
        simp only [spec_l10Pack_l0, spec_l10Pack_l0b, ints_len]
        rw [decide_eq_true (by omega : (j : Int) < (l.length : Int)), cond_true]
        simp only [gd_true (decide_eq_true (by omega : (0 : Int) ≤ (j : Int))), gd_true (rfl : true = true)]
        rw [ints_rd l j hlt, bAnd _ u (by omega) (by omega), bOr u _ (by omega) (by omega), w64_succ j (by omega), ih (j + 1) (u ||| l[j]) (by omega) (by omega) hor]
        rw [show (1 : Int) + ((pk (l.drop (j + 1)) (u ||| l[j]) : Nat) : Int) = ((1 + pk (l.drop (j + 1)) (u ||| l[j]) : Nat) : Int) by omega, w64_nat _ (by omega), mxI_nat, ihd G (j + 1) _ (by omega) (by omega) (by omega) (by omega), ihd G (j + 1) _ (by omega) (by omega) (by omega) (by omega), List.drop_eq_getElem_cons hlt]
        have e : (((l[j] &&& u : Nat) : Int) == 0) = (l[j] &&& u == 0) := by
          rw [Bool.eq_iff_iff, beq_iff_eq, beq_iff_eq]; omega
        rw [e]
        simp only [pk]
        cases l[j] &&& u == 0 with
        | true => simp only [cond_true, if_true]; rw [Nat.max_assoc]
        | false => simp
    have := key (l.length - i) N i 0 (by omega) (by omega) (Nat.le_refl _) (by omega)
    simp only [Int.natCast_zero] at this
    rw [this, Nat.zero_max]

/-! ### The same by sets -/
def stepN (s : Nat) (a : List Nat) (b : Nat) : List Nat := if b &&& s == b then a.set s (max (a.getD s 0) (1 + a.getD (s ^^^ (s &&& b)) 0)) else a
def dpRow (l : List Nat) (s : Nat) (a : List Nat) : List Nat := l.foldl (stepN s) a
def dpTo (l : List Nat) (M : Nat) : Nat → List Nat
  | 0 => List.replicate M 0
  | s + 1 => dpRow l s (dpTo l M s)
theorem stepN_len (s : Nat) (a : List Nat) (b : Nat) : (stepN s a b).length = a.length := by unfold stepN; split <;> simp
theorem dpRow_len (s : Nat) : ∀ (l a : List Nat), (dpRow l s a).length = a.length
  | [], a => rfl
  | b :: l, a => by rw [dpRow, List.foldl_cons]; exact (dpRow_len s l _).trans (stepN_len s a b)
theorem dpTo_len (l : List Nat) (M : Nat) : ∀ s, (dpTo l M s).length = M
  | 0 => by simp [dpTo]
  | s + 1 => by rw [dpTo, dpRow_len, dpTo_len l M s]
theorem getD_bound {a : List Nat} {c : Nat} (h : ∀ v ∈ a, v ≤ c) (i : Nat) : a.getD i 0 ≤ c := by
  rw [List.getD_eq_getElem?_getD]
  rcases Nat.lt_or_ge i a.length with hi | hi
  · rw [List.getElem?_eq_getElem hi]; exact h _ (List.getElem_mem hi)
  · rw [List.getElem?_eq_none hi]; exact Nat.zero_le _
theorem stepN_bound {s : Nat} {a : List Nat} {b c : Nat} (h : ∀ v ∈ a, v ≤ c) : ∀ v ∈ stepN s a b, v ≤ c + 1 := by
  intro v hv
  have h1 := getD_bound h s
  have h2 := getD_bound h (s ^^^ (s &&& b))
  unfold stepN at hv
  split at hv
  · rcases List.mem_or_eq_of_mem_set hv with hv | hv
    · have := h v hv; omega
    · omega
  · have := h v hv; omega
theorem dpRow_bound {s : Nat} : ∀ {l a : List Nat} {c : Nat}, (∀ v ∈ a, v ≤ c) → ∀ v ∈ dpRow l s a, v ≤ c + l.length
  | [], a, c, h, v, hv => h v hv
  | b :: l, a, c, h, v, hv => by
    have := dpRow_bound (l := l) (stepN_bound (s := s) (b := b) h) v hv
    simp only [List.length_cons]
    omega
theorem dpTo_bound (l : List Nat) (M : Nat) : ∀ s, ∀ v ∈ dpTo l M s, v ≤ s * l.length
  | 0, v, hv => by
    simp only [dpTo, List.mem_replicate] at hv
    omega
  | s + 1, v, hv => by
    have := dpRow_bound (dpTo_bound l M s) v hv
    rw [Nat.add_mul, Nat.one_mul]
    exact this
theorem ints_getD (a : List Nat) (i : Nat) : rd 0 (ints a) (i : Int) = ((a.getD i 0 : Nat) : Int) := by
  rcases Nat.lt_or_ge i a.length with h | h
  · rw [ints_rd a i h, List.getD_eq_getElem?_getD, List.getElem?_eq_getElem h]; rfl
  · rw [List.getD_eq_getElem?_getD, List.getElem?_eq_none h]
    simp [rd, ints, List.getElem?_eq_none h]
theorem ints_set (a : List Nat) (i v : Nat) : wr (ints a) (i : Int) (v : Int) = ints (a.set i v) := by
  simp [wr, ints, List.map_set]

theorem sub_small : ∀ s, s < 16 → ∀ b, b < 16 → s ^^^ (s &&& b) ≤ s := by decide +kernel
theorem impl_apart_inner (N n w s : Nat) (hs : s < 16) (v1 v2 v3 : Int) (l : List Nat) (hl : ∀ m ∈ l, m < 16) (hlen : l.length ≤ 16) (K : Int → Int → Int → Int → List Int → List Int → Option β) :
    ∀ (d F i c : Nat) (a : List Nat), i + d = l.length → d < F → s < a.length → c + d ≤ 100000 → (∀ v ∈ a, v ≤ c) → impl_Table_apart_l2 N F (s : Int) v1 v2 (l.length : Int) (i : Int) (n : Int) (w : Int) (ints l) (ints a) K = K v1 v2 n w (ints l) (ints (dpRow (l.drop i) s a)) := by
  intro d
  induction d with
  | zero =>
    intro F i c a hi hF ha hc hb
    obtain ⟨F, rfl⟩ : ∃ G, F = G + 1 := ⟨F - 1, by omega⟩
    simp only [impl_Table_apart_l2, impl_Table_apart_l2b, ints_len]
    rw [decide_eq_false (by omega : ¬ (i : Int) < (l.length : Int)), cond_false, List.drop_eq_nil_of_le (by omega)]
    rfl
  | succ d ih =>
    intro F i c a hi hF ha hc hb
    obtain ⟨F, rfl⟩ : ∃ G, F = G + 1 := ⟨F - 1, by omega⟩
    have hlt : i < l.length := by omega
    have hm := hl l[i] (List.getElem_mem hlt)
    have hsub := sub_small s hs l[i] hm
    have b1 := getD_bound hb s
    have b2 := getD_bound hb (s ^^^ (s &&& l[i]))
    simp only [impl_Table_apart_l2, impl_Table_apart_l2b, ints_len]
    rw [decide_eq_true (by omega : (i : Int) < (l.length : Int)), cond_true, ints_rd l i hlt, bAndNot _ s (by omega) (by omega), bAndNot s _ (by omega) (by omega), andnot_eq, ints_getD, ints_getD, w64_succ i (by omega)]
    simp only [gd_true (decide_eq_true (by omega : (0 : Int) ≤ (i : Int))), gd_true (rfl : true = true), gd_true (decide_eq_true (by omega : (0 : Int) ≤ (s : Int))), gd_true (decide_eq_true (by omega : (s : Int) < (a.length : Int))), gd_true (decide_eq_true (by omega : (0 : Int) ≤ ((s ^^^ (s &&& l[i]) : Nat) : Int))), gd_true (decide_eq_true (by omega : ((s ^^^ (s &&& l[i]) : Nat) : Int) < (a.length : Int)))]
    rw [show (1 : Int) + ((a.getD (s ^^^ (s &&& l[i])) 0 : Nat) : Int) = ((1 + a.getD (s ^^^ (s &&& l[i])) 0 : Nat) : Int) by omega, w64_nat _ (by omega), mxI_nat, ints_set]
    have h1 := ih F (i + 1) (c + 1) (stepN s a l[i]) (by omega) (by omega) (by rw [stepN_len]; exact ha) (by omega) (stepN_bound hb)
    rw [List.drop_eq_getElem_cons hlt]
    have e : dpRow (l[i] :: l.drop (i + 1)) s a = dpRow (l.drop (i + 1)) s (stepN s a l[i]) := rfl
    rw [e]
    have e2 : stepN s a l[i] = if l[i] &&& s == l[i] then a.set s (max (a.getD s 0) (1 + a.getD (s ^^^ (s &&& l[i])) 0)) else a := rfl
    cases hc2 : l[i] &&& s == l[i] with
    | true => rw [hc2, if_pos rfl] at e2; rw [e2] at h1 ⊢; exact h1
    | false => rw [hc2, if_neg (by decide)] at e2; rw [e2] at h1 ⊢; exact h1

/-! ### The least blocks, by their parts -/
def chain (b : Nat) : Nat → Nat → List Nat
  | 0, _ => []
  | f + 1, p => if p == 0 then [] else p :: chain b f ((p - 1) &&& b)
theorem chain_all : ∀ b, b < 16 → chain b 16 ((b - 1) &&& b) = ((List.range b).filter fun p => p != 0 && p &&& b == p).reverse := by decide +kernel
theorem chain_short : ∀ b, b < 16 → (chain b 16 ((b - 1) &&& b)).length < 16 := by decide +kernel
theorem chain_in (b : Nat) : ∀ f p, p ≤ b → b < 16 → ∀ q ∈ chain b f p, q < 16 ∧ 0 < q
  | 0, _, _, _, q, h => by cases h
  | f + 1, p, hp, hb, q, h => by
    simp only [chain] at h
    split at h
    · cases h
    · rename_i h0
      rcases List.mem_cons.1 h with rfl | h
      · have : q ≠ 0 := fun e => by subst e; exact h0 rfl
        omega
      · exact chain_in b f _ (Nat.le_trans Nat.and_le_right (Nat.le_refl _)) hb q h
theorem impl_blocks_inner (N n w x b : Nat) (hn : n ≤ 4) (hw : w < 4294967296) (hx : x < 2 ^ n) (hb : b < 2 ^ n) (v4 v5 : Int) (l : List Int) (K : Int → Int → Bool → Int → Int → Int → Int → List Int → Option β) :
    ∀ (f F p : Nat) (v : Bool), p ≤ b → (chain b f p).length < f → f < F → impl_Table_blocks_l2 N F (x : Int) (b : Int) v (p : Int) v4 v5 (n : Int) (w : Int) l K = K x b (v && (chain b f p).all fun q => !ch w x q) v4 v5 n w l := by
  have hs := size4 hn
  intro f
  induction f with
  | zero => intro F p v hp hl; simp at hl
  | succ f ih =>
    intro F p v hp hl hF
    obtain ⟨F, rfl⟩ : ∃ G, F = G + 1 := ⟨F - 1, by omega⟩
    simp only [impl_Table_blocks_l2, impl_Table_blocks_l2b, impl_Table_changes, impl_Table_at]
    cases v with
    | false => simp
    | true =>
      rw [cond_true]
      by_cases h0 : p = 0
      · subst h0
        rw [decide_eq_false (by omega : ¬ ((0 : Nat) : Int) > 0), cond_false]
        simp [chain]
      · have hxp := block_lt n hn x hx p (by omega)
        have hand : (p - 1) &&& b ≤ b := Nat.and_le_right
        have hc : chain b (f + 1) p = p :: chain b f ((p - 1) &&& b) := by
          simp only [chain]
          rw [if_neg (by simpa using h0)]
        rw [hc] at hl ⊢
        simp only [List.length_cons] at hl
        rw [decide_eq_true (by omega : (p : Int) > 0), cond_true, bXor x p (by omega) (by omega), gd_true (decide_eq_true (by omega : (0 : Int) ≤ (x : Int)))]
        show gd (decide ((0 : Int) ≤ ((x ^^^ p : Nat) : Int))) _ = _
        rw [gd_true (decide_eq_true (by omega : (0 : Int) ≤ ((x ^^^ p : Nat) : Int))), bit_at w x (by omega), bit_at w _ (by omega), show ((p : Int) - 1) = ((p - 1 : Nat) : Int) by omega, w64_nat _ (by omega), bAnd (p - 1) b (by omega) (by omega)]
        have e : (((if w.testBit x then 1 else 0 : Nat) : Int) != ((if w.testBit (x ^^^ p) then 1 else 0 : Nat) : Int)) = ch w x p := by rw [bne, bit_ne]; rfl
        show impl_Table_blocks_l2 N F (x : Int) (b : Int) (!(((if w.testBit x then 1 else 0 : Nat) : Int) != ((if w.testBit (x ^^^ p) then 1 else 0 : Nat) : Int))) (((p - 1) &&& b : Nat) : Int) v4 v5 (n : Int) (w : Int) l K = _
        rw [e, ih F _ _ hand (by omega) (by omega), List.all_cons, Bool.true_and]
theorem least_parts (g : Nat → Bool) (hg : g 0 = false) (b : Nat) (hb : b < 16) (P : ∀ c, c ≤ b → ∀ m, m ∈ sb g c ↔ m < c ∧ g m = true ∧ ∀ p, 0 < p → p < m → p &&& m = p → g p = false) :
    ((sb g b).all fun m => !(m &&& b == m)) = ((chain b 16 ((b - 1) &&& b)).all fun q => !g q) := by
  rw [chain_all b hb, Bool.eq_iff_iff, List.all_eq_true, List.all_eq_true]
  constructor
  · intro h q hq
    simp only [List.mem_reverse, List.mem_filter, List.mem_range, Bool.and_eq_true, bne_iff_ne, beq_iff_eq] at hq
    obtain ⟨hqb, hq0, hqs⟩ := hq
    have key : ∀ q, q < b → q ≠ 0 → q &&& b = q → g q = false := by
      intro q
      induction q using Nat.strongRecOn with
      | ind q ih =>
        intro h1 h2 h3
        cases hgq : g q with
        | false => rfl
        | true =>
          exfalso
          have hm : q ∈ sb g b := (P b (Nat.le_refl _) q).2 ⟨h1, hgq, fun p hp hpq hps => ih p hpq (by omega) (by omega) (by
            rw [← h3] at hps
            rw [← hps, ← Nat.and_assoc, Nat.and_assoc, Nat.and_assoc, Nat.and_assoc, Nat.and_self])⟩
          have := h q hm
          rw [h3] at this
          simp at this
    rw [key q hqb hq0 hqs]
    rfl
  · intro h m hm
    obtain ⟨h1, h2, -⟩ := (P b (Nat.le_refl _) m).1 hm
    cases hs : m &&& b == m with
    | false => rfl
    | true =>
      exfalso
      have hm0 : m ≠ 0 := fun e => by rw [e, hg] at h2; cases h2
      have := h m (by
        simp only [List.mem_reverse, List.mem_filter, List.mem_range, Bool.and_eq_true, bne_iff_ne, beq_iff_eq]
        exact ⟨h1, hm0, eq_of_beq hs⟩)
      rw [h2] at this
      cases this
theorem sb_mem (g : Nat → Bool) (hg : g 0 = false) : ∀ b, b ≤ 16 → ∀ c, c ≤ b → ∀ m, m ∈ sb g c ↔ m < c ∧ g m = true ∧ ∀ p, 0 < p → p < m → p &&& m = p → g p = false := by
  intro b
  induction b with
  | zero =>
    intro _ c hc m
    obtain rfl : c = 0 := by omega
    simp [sb]
  | succ b ih =>
    intro hb c hc m
    by_cases hcb : c ≤ b
    · exact ih (by omega) c hcb m
    · obtain rfl : c = b + 1 := by omega
      have hP := ih (by omega)
      have hl := least_parts g hg b (by omega) hP
      rw [chain_all b (by omega)] at hl
      have hall : ((sb g b).all fun m => !(m &&& b == m)) = true ↔ ∀ p, 0 < p → p < b → p &&& b = p → g p = false := by
        rw [hl, List.all_eq_true]
        constructor
        · intro h p h1 h2 h3
          have := h p (by
            simp only [List.mem_reverse, List.mem_filter, List.mem_range, Bool.and_eq_true, bne_iff_ne, beq_iff_eq]
            exact ⟨h2, by omega, h3⟩)
          simpa using this
        · intro h q hq
          simp only [List.mem_reverse, List.mem_filter, List.mem_range, Bool.and_eq_true, bne_iff_ne, beq_iff_eq] at hq
          rw [h q (by omega) hq.1 hq.2.2]
          rfl
      simp only [sb]
      by_cases hcnd : (g b && (sb g b).all fun m => !(m &&& b == m)) = true
      · rw [if_pos hcnd]
        simp only [Bool.and_eq_true] at hcnd
        rw [List.mem_append, hP b (Nat.le_refl _) m, List.mem_singleton]
        constructor
        · rintro (h | rfl)
          · exact ⟨by omega, h.2⟩
          · exact ⟨by omega, hcnd.1, hall.1 hcnd.2⟩
        · rintro ⟨h1, h2⟩
          by_cases e : m = b
          · exact .inr e
          · exact .inl ⟨by omega, h2⟩
      · rw [if_neg hcnd, hP b (Nat.le_refl _) m]
        constructor
        · rintro ⟨h1, h2⟩
          exact ⟨by omega, h2⟩
        · rintro ⟨h1, h2, h3⟩
          by_cases e : m = b
          · subst e
            refine absurd ?_ hcnd
            rw [h2, Bool.true_and]
            exact hall.2 h3
          · exact ⟨by omega, h2, h3⟩
theorem impl_Table_blocks_eq (N : Nat) (hN : 64 < N) (n w x : Nat) (hn : n ≤ 4) (hw : w < 2 ^ 2 ^ n) (hx : x < 2 ^ n) (k : List Int → Option β) : impl_Table_blocks N (n : Int) (w : Int) (x : Int) k = k (ints (sb (ch w x) (2 ^ n))) := by
  have hs := size4 hn
  have hw' := two32 (by omega) hw
  unfold impl_Table_blocks impl_Table_size
  rw [gd_true (decide_eq_true (by omega : (0 : Int) ≤ (n : Int))), shl_one n (by omega)]
  have key : ∀ (F b : Nat), 2 ^ n - b < F → b ≤ 2 ^ n → impl_Table_blocks_l0 N F (x : Int) ((2 ^ n : Nat) : Int) (b : Int) (n : Int) (w : Int) (ints (sb (ch w x) b)) k = k (ints (sb (ch w x) (2 ^ n))) := by
    intro F
    induction F with
    | zero => intro b h; omega
    | succ F ih =>
      intro b hF hb
      simp only [impl_Table_blocks_l0, impl_Table_blocks_l0b, impl_Table_changes, impl_Table_at]
      by_cases hlt : b < 2 ^ n
      · have hxb := block_lt n hn x hx b hlt
        have hsl := sb_len (ch w x) b
        have hand : (b - 1) &&& b ≤ b := Nat.and_le_right
        have hpart : bits .and .i64 (w64 ((b : Int) - 1)) (b : Int) = (((b - 1) &&& b : Nat) : Int) := by
          by_cases h0 : b = 0
          · subst h0; decide
          · rw [show ((b : Int) - 1) = ((b - 1 : Nat) : Int) by omega, w64_nat _ (by omega), bAnd (b - 1) b (by omega) (by omega)]
        have hm := sb_mem (ch w x) (ch_zero w x) b (by omega)
        have hleast := least_parts (ch w x) (ch_zero w x) b (by omega) hm
        rw [decide_eq_true (by omega : (b : Int) < ((2 ^ n : Nat) : Int)), cond_true, bXor x b (by omega) (by omega), hpart, gd_true (decide_eq_true (by omega : (0 : Int) ≤ (x : Int)))]
        show gd (decide ((0 : Int) ≤ ((x ^^^ b : Nat) : Int))) _ = _
        rw [gd_true (decide_eq_true (by omega : (0 : Int) ≤ ((x ^^^ b : Nat) : Int))), bit_at w x (by omega), bit_at w _ (by omega)]
        have e : (((if w.testBit x then 1 else 0 : Nat) : Int) != ((if w.testBit (x ^^^ b) then 1 else 0 : Nat) : Int)) = ch w x b := by rw [bne, bit_ne]; rfl
        simp only [e]
        rw [impl_blocks_inner N n w x b hn hw' hx hlt _ _ _ _ 16 N _ _ hand (chain_short b (by omega)) (by omega), ← hleast]
        have h1 := ih (b + 1) (by omega) (by omega)
        simp only [sb] at h1
        rw [w64_succ b (by omega), ints_len, gd_true (decide_eq_true (by simp; omega))]
        cases hc : (ch w x b && (sb (ch w x) b).all fun m => !(m &&& b == m)) with
        | true =>
          rw [hc] at h1
          rw [cond_true]
          have e3 : ints (sb (ch w x) b) ++ (([] : List Int) ++ [(b : Int)]) = ints (sb (ch w x) b ++ [b]) := by simp [ints]
          rw [e3]
          exact h1
        | false => rw [hc] at h1; exact h1
      · rw [decide_eq_false (by omega : ¬ (b : Int) < ((2 ^ n : Nat) : Int)), cond_false, show b = 2 ^ n by omega]
  have := key N 0 (by omega) (Nat.zero_le _)
  exact this

/-- That both ways to count agree, for all lists of least blocks. -/
def okL (n : Nat) (l : List Nat) : Bool := (dpTo l (2 ^ n) (2 ^ n)).getD (2 ^ n - 1) 0 == pk l 0
def chk (n : Nat) : Nat → Nat → List Nat → Bool
  | 0, _, l => okL n l
  | f + 1, b, l => if l.any (fun m => m &&& b == m) then chk n f (b + 1) l else chk n f (b + 1) l && chk n f (b + 1) (l ++ [b])
theorem chk_ok : ∀ n, n ≤ 4 → chk n (2 ^ n - 1) 1 [] = true := by decide +kernel
theorem chk_sb (n : Nat) (g : Nat → Bool) : ∀ f b, chk n f b (sb g b) = true → okL n (sb g (b + f)) = true
  | 0, b, h => h
  | f + 1, b, h => by
    rw [show b + (f + 1) = (b + 1) + f by omega]
    refine chk_sb n g f (b + 1) ?_
    simp only [chk] at h
    have hall : ((sb g b).all fun m => !(m &&& b == m)) = !(sb g b).any (fun m => m &&& b == m) := by
      rw [List.not_any_eq_all_not]
    simp only [sb]
    rw [hall]
    cases ha : (sb g b).any (fun m => m &&& b == m) with
    | true =>
      rw [ha, if_pos rfl] at h
      simpa using h
    | false =>
      rw [ha, if_neg (by decide)] at h
      simp only [Bool.and_eq_true] at h
      cases g b
      · simpa using h.1
      · simpa using h.2
/-- Block sensitivity at an input. -/
def bs (w n x : Nat) : Nat := pk (sb (ch w x) (2 ^ n)) 0
theorem bs_le (w n x : Nat) (hn : n ≤ 4) : bs w n x ≤ 16 := by
  have h1 := pk_le (sb (ch w x) (2 ^ n)) 0
  have h2 := sb_len (ch w x) (2 ^ n)
  have h3 := size4 hn
  unfold bs
  omega
theorem sb16 (w n x : Nat) (hn : n ≤ 4) : (∀ m ∈ sb (ch w x) (2 ^ n), m < 16) ∧ (sb (ch w x) (2 ^ n)).length ≤ 16 := by
  have h3 := size4 hn
  exact ⟨fun m hm => by have := sb_lt _ _ m hm; omega, by have := sb_len (ch w x) (2 ^ n); omega⟩
theorem impl_apart_eq (N : Nat) (hN : 64 < N) (n w x : Nat) (hn : n ≤ 4) (hw : w < 2 ^ 2 ^ n) (hx : x < 2 ^ n) (k : Int → Option β) : impl_Table_apart N (n : Int) (w : Int) (x : Int) k = k (bs w n x : Int) := by
  have hs := size4 hn
  have hpos := Nat.two_pow_pos n
  obtain ⟨hl, hlen⟩ := sb16 w n x hn
  have hok : okL n (sb (ch w x) (2 ^ n)) = true := by
    have h0 : sb (ch w x) 1 = [] := by simp [sb, ch_zero]
    have h1 := chk_ok n hn
    rw [← h0] at h1
    have := chk_sb n (ch w x) (2 ^ n - 1) 1 h1
    rw [show 1 + (2 ^ n - 1) = 2 ^ n by omega] at this
    exact this
  unfold impl_Table_apart impl_Table_size
  rw [impl_Table_blocks_eq N hN n w x hn hw hx]
  unfold bs
  generalize sb (ch w x) (2 ^ n) = l at hl hlen hok ⊢
  show gd (decide ((0 : Int) ≤ (n : Int))) ((fun r5 => _) (shlI .i64 1 (n : Int))) = _
  rw [gd_true (decide_eq_true (by omega : (0 : Int) ≤ (n : Int))), shl_one n (by omega)]
  have key : ∀ (K : Int → Int → List Int → Option β) (F s : Nat), 2 ^ n - s < F → s ≤ 2 ^ n → impl_Table_apart_l0 N F ((2 ^ n : Nat) : Int) (s : Int) (n : Int) (w : Int) (ints l) (ints (dpTo l (2 ^ n) s)) K = K n w (ints (dpTo l (2 ^ n) (2 ^ n))) := by
    intro K F
    induction F with
    | zero => intro s h; omega
    | succ F ih =>
      intro s hF hsle
      simp only [impl_Table_apart_l0, impl_Table_apart_l0b, ints_len]
      by_cases hlt : s < 2 ^ n
      · have hb := dpTo_bound l (2 ^ n) s
        have hmul : s * l.length ≤ 16 * 16 := Nat.mul_le_mul (by omega) hlen
        have e := fun K => impl_apart_inner (β := β) N n w s (by omega) ((2 ^ n : Nat) : Int) (s : Int) ((0 : Nat) : Int) l hl hlen K l.length N 0 (s * l.length) (dpTo l (2 ^ n) s) (by omega) (by omega) (by rw [dpTo_len]; exact hlt) (by omega) hb
        rw [decide_eq_true (by omega : (s : Int) < ((2 ^ n : Nat) : Int)), cond_true]
        have e2 := fun K => impl_apart_inner (β := β) N n w s (by omega) ((2 ^ n : Nat) : Int) (s : Int) (0 : Int) l hl hlen K l.length N 0 (s * l.length) (dpTo l (2 ^ n) s) (by omega) (by omega) (by rw [dpTo_len]; exact hlt) (by omega) hb
        simp only [Int.natCast_zero, List.drop_zero] at e2
        rw [e2, w64_succ s (by omega)]
        exact ih (s + 1) (by omega) (by omega)
      · rw [decide_eq_false (by omega : ¬ (s : Int) < ((2 ^ n : Nat) : Int)), cond_false, show s = 2 ^ n by omega]
  show gd (decide ((0 : Int) ≤ ((2 ^ n : Nat) : Int))) (gd (decide (((2 ^ n : Nat) : Int) ≤ ((2 ^ n : Nat) : Int))) (gd (decide (8 * ((2 ^ n : Nat) : Int) ≤ 281474976710656)) (impl_Table_apart_l0 N N ((List.replicate (Int.toNat ((2 ^ n : Nat) : Int)) (0 : Int)).length : Int) 0 (n : Int) (w : Int) (ints l) (List.replicate (Int.toNat ((2 ^ n : Nat) : Int)) (0 : Int)) fun e7_0 e7_1 e7_2 => gd (decide (0 ≤ e7_0)) ((fun r8 => gd (decide (0 ≤ w64 (r8 - 1))) (gd (decide (w64 (r8 - 1) < (e7_2.length : Int))) (k (rd 0 e7_2 (w64 (r8 - 1)))))) (shlI .i64 1 e7_0))))) = _
  rw [gd_true (decide_eq_true (Int.natCast_nonneg _)), gd_true (decide_eq_true (Int.le_refl _)), gd_true (decide_eq_true (by omega)), List.length_replicate, Int.toNat_natCast]
  have hz : List.replicate (2 ^ n) (0 : Int) = ints (dpTo l (2 ^ n) 0) := by simp [dpTo, ints]
  have e := fun K => key K N 0 (by omega) (Nat.zero_le _)
  simp only [Int.natCast_zero] at e
  rw [hz, e, gd_true (decide_eq_true (by omega : (0 : Int) ≤ (n : Int))), shl_one n (by omega)]
  show gd (decide (0 ≤ w64 (((2 ^ n : Nat) : Int) - 1))) (gd (decide (w64 (((2 ^ n : Nat) : Int) - 1) < ((ints (dpTo l (2 ^ n) (2 ^ n))).length : Int))) (k (rd 0 (ints (dpTo l (2 ^ n) (2 ^ n))) (w64 (((2 ^ n : Nat) : Int) - 1))))) = _
  rw [show (((2 ^ n : Nat) : Int) - 1) = ((2 ^ n - 1 : Nat) : Int) by omega, w64_nat _ (by omega), ints_len, dpTo_len, gd_true (decide_eq_true (Int.natCast_nonneg _)), gd_true (decide_eq_true (by omega)), ints_getD]
  unfold okL at hok
  rw [eq_of_beq hok]

/-- The block sensitivity of a table. -/
def bsOf (w n : Nat) : Nat := mx (bs w n) (2 ^ n)
theorem bsOf_le (w n : Nat) (hn : n ≤ 4) : bsOf w n ≤ 16 := mx_le _ _ _ fun x _ => bs_le w n x hn
theorem spec_BlockSensitivityOf_eq (N : Nat) (hN : 64 < N) (n w : Nat) (hn : n ≤ 4) (hw : w < 2 ^ 2 ^ n) (k : Int → Option β) : spec_BlockSensitivityOf N (n : Int) (w : Int) k = k (bsOf w n : Int) := by
  have hs := size4 hn
  unfold spec_BlockSensitivityOf
  rw [spec_IsTable_eq, isT_of (by omega) hw, Bool.not_true, cond_false]
  have key : ∀ (F x : Nat), 2 ^ n - x < F → x ≤ 2 ^ n → spec_BlockSensitivityOf_l0 N F (mx (bs w n) x : Int) (x : Int) (n : Int) (w : Int) k = k (bsOf w n : Int) := by
    intro F
    induction F with
    | zero => intro x h; omega
    | succ F ih =>
      intro x hF hx
      simp only [spec_BlockSensitivityOf_l0, spec_BlockSensitivityOf_l0b, spec_BlockSensitivityAt]
      rw [gd_true (decide_eq_true (by omega : (0 : Int) ≤ (n : Int))), shl_one n (by omega)]
      by_cases hlt : x < 2 ^ n
      · obtain ⟨hl, hlen⟩ := sb16 w n x hn
        have e := fun K => spec_pack_f (β := β) N hN (sb (ch w x) (2 ^ n)) hl hlen N 0 0 (by omega) (Nat.zero_le _) (by decide) K
        simp only [Int.natCast_zero, List.drop_zero] at e
        rw [decide_eq_true (by omega : (x : Int) < ((2 ^ n : Nat) : Int)), cond_true, spec_l9In_eq, isIn_of (by omega) hw hlt, Bool.not_true, cond_false, spec_l10Blocks_eq N hN n w x hn hw hlt]
        unfold spec_l10Pack
        rw [e, mxI_nat, w64_succ x (by omega)]
        exact ih (x + 1) (by omega) (by omega)
      · rw [decide_eq_false (by omega : ¬ (x : Int) < ((2 ^ n : Nat) : Int)), cond_false, show x = 2 ^ n by omega]
        rfl
  exact key N 0 (by omega) (Nat.zero_le _)
theorem impl_BlockSensitivityOf_eq (N : Nat) (hN : 64 < N) (n w : Nat) (hn : n ≤ 4) (hw : w < 2 ^ 2 ^ n) (k : Int → Option β) : impl_BlockSensitivityOf N (n : Int) (w : Int) k = k (bsOf w n : Int) := by
  have hs := size4 hn
  have hw' := two32 (by omega) hw
  unfold impl_BlockSensitivityOf impl_Table_size
  rw [impl_IsTable_eq N _ _ (by omega), isT_of (by omega) hw, Bool.not_true, cond_false, gd_true (decide_eq_true (by omega : (0 : Int) ≤ (n : Int))), shl_one n (by omega)]
  have key : ∀ (F x : Nat), 2 ^ n - x < F → x ≤ 2 ^ n → impl_BlockSensitivityOf_l0 N F (mx (bs w n) x : Int) ((2 ^ n : Nat) : Int) (x : Int) (n : Int) (w : Int) k = k (bsOf w n : Int) := by
    intro F
    induction F with
    | zero => intro x h; omega
    | succ F ih =>
      intro x hF hx
      simp only [impl_BlockSensitivityOf_l0, impl_BlockSensitivityOf_l0b]
      by_cases hlt : x < 2 ^ n
      · rw [decide_eq_true (by omega : (x : Int) < ((2 ^ n : Nat) : Int)), cond_true, impl_apart_eq N hN n w x hn hw hlt, mxI_nat, w64_succ x (by omega)]
        exact ih (x + 1) (by omega) (by omega)
      · rw [decide_eq_false (by omega : ¬ (x : Int) < ((2 ^ n : Nat) : Int)), cond_false, show x = 2 ^ n by omega]
        rfl
  exact key N 0 (by omega) (Nat.zero_le _)
end Go.Proofs.Ytdkjnadhgdneaaa
