/- Plain laws of the texts: the relations that do not hold. -/
import Derived.Test.YtfdggelojmofmaaP92
namespace Go.Proofs.Ytfdggelojmofmaa
open Go.Rv
set_option linter.unusedVariables false
variable {β : Type}
theorem loop_up (g : Nat → Nat → Option β) (m : Nat) (r : Option β) (hs : ∀ F i, i < m → g (F + 1) i = g F (i + 1)) (he : ∀ F, g (F + 1) m = r) :
    ∀ (F i : Nat), i ≤ m → m - i < F → g F i = r := by
  intro F
  induction F with
  | zero => intro i _ h; omega
  | succ F ih =>
    intro i hi hF
    rcases Nat.lt_or_ge i m with h | h
    · rw [hs F i h]; exact ih (i + 1) h (by omega)
    · have : i = m := by omega
      subst this; exact he F
theorem rdB (l : List ByteArray) (i : Nat) (h : i < l.length) : rd ByteArray.empty l (i : Int) = l[i] := by
  simp only [rd, Int.toNat_natCast, List.getD_eq_getElem?_getD, List.getElem?_eq_getElem h]
  rfl

/-! ### Marks -/
theorem strOf_one (x : Int) : (strOf (([] : List Int) ++ [x])).size = 1 := by simp [strOf, ByteArray.size]
theorem markText_loop (N : Nat) : ∀ (d F m : Nat) (out : ByteArray), m < 10 ^ d → d < F → out.size + d ≤ 1000 → m ≤ 9223372036854775807 →
    ∃ r : ByteArray, r.size ≤ 1000 ∧ ∀ k0 : ByteArray → Option β, zj176 N F (m : Int) out k0 = k0 r := by
  intro d
  induction d with
  | zero =>
    intro F m out h hF ho _
    obtain ⟨F, rfl⟩ : ∃ G, F = G + 1 := ⟨F - 1, by omega⟩
    have : m = 0 := by simpa using h
    subst this
    exact ⟨out, by omega, fun k0 => rfl⟩
  | succ d ih =>
    intro F m out h hF ho hm
    obtain ⟨F, rfl⟩ : ∃ G, F = G + 1 := ⟨F - 1, by omega⟩
    by_cases h0 : m = 0
    · subst h0; exact ⟨out, by omega, fun k0 => rfl⟩
    · have hq : quoI .i64 (m : Int) 10 = ((m / 10 : Nat) : Int) := by
        show w64 ((m : Int).tdiv 10) = _
        rw [show (m : Int).tdiv 10 = ((m / 10 : Nat) : Int) from rfl, w64_id (by omega) (by omega)]
      obtain ⟨r, h1, h2⟩ := ih F (m / 10) (strOf (([] : List Int) ++ [w8 (w64 (48 + remI (m : Int) 10))]) ++ out) (by rw [Nat.pow_succ] at h; omega) (by omega) (by rw [ByteArray.size_append, strOf_one]; omega) (by omega)
      refine ⟨r, h1, fun k0 => ?_⟩
      simp only [zj176, zj175]
      rw [decide_eq_true (by omega : (m : Int) > 0), cond_true, strOf_one, gd_true (decide_eq_true (by omega)), hq, h2]
theorem markText_eq (N : Nat) (hN : 1048576 < N) (i : Nat) (hi : i ≤ 1000000) : ∃ r : ByteArray, ∀ k : ByteArray → Option β, zj177 N (i : Int) k = k r := by
  unfold zj177
  by_cases h0 : i = 0
  · subst h0; exact ⟨_, fun k => rfl⟩
  · obtain ⟨r, h1, h2⟩ := markText_loop (β := β) N 19 N i ByteArray.empty (Nat.lt_of_le_of_lt hi (by decide)) (by omega) (by simp) (by omega)
    refine ⟨strOf [109] ++ r, fun k => ?_⟩
    rw [decide_eq_false (by omega : ¬ (i : Int) ≤ 0), cond_false, h2, gd_true (decide_eq_true (by have : (strOf [109]).size = 1 := rfl; omega))]

def mks (f : Nat → ByteArray) (n : Nat) : List ByteArray := (List.range n).map fun i => f (1 + i)
theorem mks_len (f : Nat → ByteArray) (n : Nat) : (mks f n).length = n := by simp [mks]
theorem mks_succ (f : Nat → ByteArray) (n : Nat) : mks f (n + 1) = mks f n ++ [f (1 + n)] := by simp [mks, List.range_succ]

section
variable (N : Nat) (hN : 1048576 < N) (f : Nat → ByteArray) (hf : ∀ i : Nat, i ≤ 1000000 → ∀ k : ByteArray → Option β, zj177 N (i : Int) k = k (f i))
include hN hf
theorem markStringS_eq (l : List ByteArray) (hl : l.length ≤ 1000) (k : Int → List ByteArray → Option β) : zj183 N l 1 k = k ((1 + l.length : Nat) : Int) (mks f l.length) := by
  unfold zj183
  have main := loop_up (fun F i => zj182 N F ((1 + i : Nat) : Int) (i : Int) (mks f i ++ l.drop i) fun e0 e1 => k e0 e1) l.length (k ((1 + l.length : Nat) : Int) (mks f l.length)) (fun F i hi => ?_) (fun F => ?_) N 0 (by omega) (by omega)
  · exact main
  · have hlen : (mks f i ++ l.drop i).length = l.length := by rw [List.length_append, mks_len, List.length_drop]; omega
    simp only [zj182, zj181, hlen]
    rw [decide_eq_true (by omega : (i : Int) < (l.length : Int)), cond_true, hf _ (by omega), gd_true (decide_eq_true (by omega)), gd_true rfl, w64_succ _ (by omega), w64_succ _ (by omega)]
    have e : wr (mks f i ++ l.drop i) (i : Int) (f (1 + i)) = mks f (i + 1) ++ l.drop (i + 1) := by
      rw [List.drop_eq_getElem_cons hi, mks_succ]
      have hw : ∀ (p r : List ByteArray) (y z : ByteArray), wr (p ++ y :: r) (p.length : Int) z = p ++ z :: r := by intro p r y z; simp [wr]
      have := hw (mks f i) (l.drop (i + 1)) l[i] (f (1 + i))
      rw [mks_len] at this
      rw [this]
      simp
    rw [e]
    rfl
  · simp only [zj182, zj181]
    rw [decide_eq_false (by rw [List.length_append, mks_len]; simp), cond_false]
    simp
theorem heldStringS_eq (n : Nat) (hn : n ≤ 1000) (k : Int → Option β) : zj180 N (mks f n) 1 k = k ((1 + n : Nat) : Int) := by
  unfold zj180
  have main := loop_up (fun F i => zj179 N F (mks f n) ((1 + i : Nat) : Int) (i : Int) (fun e => k e) fun e => k e) n (k ((1 + n : Nat) : Int)) (fun F i hi => ?_) (fun F => ?_) N 0 (by omega) (by omega)
  · exact main
  · have hlen := mks_len f n
    have hr : rd ByteArray.empty (mks f n) (i : Int) = f (1 + i) := by
      rw [rdB _ i (by omega)]
      simp [mks]
    simp only [zj179, zj178, hlen, hr]
    rw [decide_eq_true (by omega : (i : Int) < (n : Int)), cond_true, gd_true (decide_eq_true (by omega)), gd_true rfl, hf _ (by omega), beq_self_eq_true, Bool.not_true, cond_false, w64_succ _ (by omega), w64_succ _ (by omega)]
    rfl
  · simp only [zj179, zj178, mks_len]
    rw [decide_eq_false (by omega), cond_false]
end

theorem eqStringS_same (N : Nat) (hN : 1048576 < N) (l : List ByteArray) (hl : l.length ≤ 1000) (k : Bool → Option β) : zj174 N l l k = k true := by
  unfold zj174
  rw [bne_self_eq_false, cond_false]
  refine loop_up (fun F i => zj173 N F l l (i : Int) (fun e => k e) (k true)) l.length _ (fun F i hi => ?_) (fun F => ?_) N 0 (by omega) (by omega)
  · simp only [zj173, zj172]
    rw [decide_eq_true (by omega : (i : Int) < (l.length : Int)), cond_true, gd_true (decide_eq_true (by omega)), gd_true rfl, gd_true (decide_eq_true (by omega)), gd_true rfl, beq_self_eq_true, Bool.not_true, cond_false, w64_succ i (by omega)]
  · simp only [zj173, zj172]
    rw [decide_eq_false (by omega), cond_false]

/-! ### Deleting -/
theorem IndexFunc_str (N : Nat) (hN : 1048576 < N) (l : List ByteArray) (hl : l.length ≤ 1000) (q : ByteArray → Bool) (fn : ByteArray → (Bool → Option β) → Option β) (hq : ∀ x K, fn x K = K (q x)) (k : Int → Option β) :
    (zj167 N l fn k = k (-1) ∧ ∀ x ∈ l, q x = false) ∨ ∃ i, ∃ h : i < l.length, q l[i] = true ∧ (∀ x ∈ l.take i, q x = false) ∧ zj167 N l fn k = k (i : Int) := by
  unfold zj167
  have main : ∀ (d i F : Nat), i + d = l.length → d < F → (∀ x ∈ l.take i, q x = false) →
      (zj166 N fn F l (l.length : Int) (i : Int) (fun e => k e) (k (-1)) = k (-1) ∧ ∀ x ∈ l, q x = false) ∨
      ∃ i', ∃ h : i' < l.length, q l[i'] = true ∧ (∀ x ∈ l.take i', q x = false) ∧ zj166 N fn F l (l.length : Int) (i : Int) (fun e => k e) (k (-1)) = k (i' : Int) := by
    intro d
    induction d with
    | zero =>
      intro i F hi hF hx
      obtain ⟨G, rfl⟩ : ∃ G, F = G + 1 := ⟨F - 1, by omega⟩
      refine .inl ⟨?_, ?_⟩
      · simp only [zj166, zj165]
        rw [decide_eq_false (by omega), cond_false]
      · rw [List.take_of_length_le (by omega)] at hx; exact hx
    | succ d ih =>
      intro i F hi hF hx
      obtain ⟨G, rfl⟩ : ∃ G, F = G + 1 := ⟨F - 1, by omega⟩
      have hlt : i < l.length := by omega
      have step : zj166 N fn (G + 1) l (l.length : Int) (i : Int) (fun e => k e) (k (-1)) = cond (q l[i]) (k i) (zj166 N fn G l (l.length : Int) ((i + 1 : Nat) : Int) (fun e => k e) (k (-1))) := by
        simp only [zj166, zj165]
        rw [decide_eq_true (by omega : (i : Int) < (l.length : Int)), cond_true, gd_true (decide_eq_true (by omega)), gd_true rfl, rdB l i hlt, hq, w64_succ i (by omega)]
      rw [step]
      cases hqi : q l[i] with
      | true => exact .inr ⟨i, hlt, hqi, hx, rfl⟩
      | false =>
        refine ih (i + 1) G (by omega) (by omega) fun x h => ?_
        rw [List.take_succ_eq_append_getElem hlt] at h
        rcases List.mem_append.1 h with h | h
        · exact hx x h
        · simp only [List.mem_singleton] at h; rw [h]; exact hqi
  exact main l.length 0 N (by omega) (by omega) (fun x h => by simp at h)

theorem del_loop (N : Nat) (q : ByteArray → Bool) (a1 a2 : Int) (hq : ∀ x (K : Bool → Option β), zj164 N x a1 a2 K = K (q x)) (l : List ByteArray) (hl : l.length ≤ 1000) (K0 : Int → Int → Int → List ByteArray → Option β) :
    ∀ (d j F i : Nat) (m : List ByteArray), j + d = l.length → d < F → i < j → m.length = l.length → m.take i = (l.take j).filter (fun x => !q x) → (∀ x, j ≤ x → m[x]? = l[x]?) →
      ∃ (i' : Nat) (m' : List ByteArray), i' < l.length ∧ m'.length = l.length ∧ m'.take i' = l.filter (fun x => !q x) ∧ zj169 N F (i : Int) (j : Int) a1 a2 m K0 = K0 i' a1 a2 m' := by
  intro d
  induction d with
  | zero =>
    intro j F i m hj hF hij hm ht hr
    obtain ⟨G, rfl⟩ : ∃ G, F = G + 1 := ⟨F - 1, by omega⟩
    refine ⟨i, m, by omega, hm, by rw [ht, List.take_of_length_le (by omega)], ?_⟩
    simp only [zj169, zj168]
    rw [decide_eq_false (by omega), cond_false]
  | succ d ih =>
    intro j F i m hj hF hij hm ht hr
    obtain ⟨G, rfl⟩ : ∃ G, F = G + 1 := ⟨F - 1, by omega⟩
    have hlt : j < l.length := by omega
    have hmj : m[j]'(by omega) = l[j] := by
      have := hr j (Nat.le_refl _)
      rw [List.getElem?_eq_getElem hlt, List.getElem?_eq_getElem (by omega)] at this
      simpa using this
    simp only [zj169, zj168]
    rw [decide_eq_true (by omega : (j : Int) < (m.length : Int)), cond_true, gd_true (decide_eq_true (by omega)), gd_true rfl, hq, rdB m j (by omega), hmj, w64_succ j (by omega), w64_succ i (by omega)]
    cases hqj : q l[j] with
    | true =>
      rw [Bool.not_true, cond_false]
      refine ih (j + 1) G i m (by omega) (by omega) (by omega) hm ?_ (fun x hx => hr x (by omega))
      rw [List.take_succ_eq_append_getElem hlt, List.filter_append, ← ht]
      simp [hqj]
    | false =>
      rw [Bool.not_false, cond_true, gd_true (decide_eq_true (by omega)), gd_true (decide_eq_true (by omega))]
      refine ih (j + 1) G (i + 1) (wr m (i : Int) l[j]) (by omega) (by omega) (by omega) (by simpa [wr] using hm) ?_ (fun x hx => ?_)
      · rw [List.take_succ_eq_append_getElem hlt, List.filter_append, ← ht, List.take_succ_eq_append_getElem (by simp [wr]; omega)]
        have e : List.take i (m.set i l[j]) = List.take i m := by rw [List.take_set, List.set_eq_of_length_le (by simp; omega)]
        simp [wr, hqj, e]
      · simp only [wr, Int.toNat_natCast]
        rw [List.getElem?_set_ne (by omega)]
        exact hr x (by omega)

theorem DeleteFunc_eq (N : Nat) (hN : 1048576 < N) (q : ByteArray → Bool) (a1 a2 : Int) (hq : ∀ x (K : Bool → Option β), zj164 N x a1 a2 K = K (q x)) (l : List ByteArray) (hl : l.length ≤ 1000) (K : Int → Int → List ByteArray → Option β) :
    zj170 N l a1 a2 K = K a1 a2 (l.filter fun x => !q x) := by
  unfold zj170
  rcases IndexFunc_str N hN l hl q (fun x0 k => zj164 N x0 a1 a2 k) hq (fun r6 => cond (r6 == (-1)) (K a1 a2 l) (zj169 N N r6 (w64 (r6 + 1)) a1 a2 l fun e0 e1 e2 e3 => gd (decide (0 ≤ e0)) (gd (decide (e0 < (e3.length : Int))) (gd (decide (0 ≤ e0)) (gd (decide (e0 ≤ ((clearF e3 e0).length : Int))) (K e1 e2 (List.drop 0 (List.take e0.toNat (clearF e3 e0))))))))) with ⟨h1, h2⟩ | ⟨i, hi, h1, h2, h3⟩
  · refine h1.trans ?_
    rw [beq_self_eq_true, cond_true, List.filter_eq_self.2 fun x hx => by rw [h2 x hx]; rfl]
  · refine h3.trans ?_
    rw [beq_eq_false_iff_ne.2 (by omega), cond_false, w64_succ i (by omega)]
    obtain ⟨i', m', k1, k2, k3, k4⟩ := del_loop N q a1 a2 hq l hl (fun e0 e1 e2 e3 => gd (decide (0 ≤ e0)) (gd (decide (e0 < (e3.length : Int))) (gd (decide (0 ≤ e0)) (gd (decide (e0 ≤ ((clearF e3 e0).length : Int))) (K e1 e2 (List.drop 0 (List.take e0.toNat (clearF e3 e0)))))))) (l.length - (i + 1)) (i + 1) N i l (by omega) (by omega) (by omega) rfl
      (by
        rw [List.take_succ_eq_append_getElem hi, List.filter_append, List.filter_eq_self.2 fun x hx => by rw [h2 x hx]; rfl]
        simp [h1]) (fun x _ => rfl)
    rw [k4]
    have hcl : (clearF m' (i' : Int)).length = m'.length := by simp [clearF]; omega
    rw [gd_true (decide_eq_true (by omega)), gd_true (decide_eq_true (by omega)), gd_true (decide_eq_true (by omega)), gd_true (decide_eq_true (by omega)), List.drop_zero, ← k3]
    congr 1
    simp only [clearF, Int.toNat_natCast]
    rw [List.take_append_of_le_length (by simp; omega), List.take_take, Nat.min_self]

def relNames : List ByteArray := [strOf [111, 114, 100, 101, 114], strOf [112, 114, 111, 100, 117, 99, 116], strOf [104, 117, 97, 110, 103], strOf [98, 108, 111, 99, 107, 115], strOf [100, 101, 103, 114, 101, 101, 115], strOf [118, 97, 114, 105, 97, 98, 108, 101, 115]]

theorem Broken_both (N : Nat) (hN : 1048576 < N) (a0 a1 : Int) (h0 : -9223372036854775808 ≤ a0 ∧ a0 ≤ 9223372036854775807) (h1 : -9223372036854775808 ≤ a1 ∧ a1 ≤ 9223372036854775807) :
    ∃ (l : List ByteArray) (b : Bool), l.length ≤ 6 ∧ (∀ K : List ByteArray → Bool → Option β, zj77 N a0 a1 K = K l b) ∧ (∀ K : List ByteArray → Bool → Option β, zj171 N a0 a1 K = K l b) := by
  have hs : ∀ K : List ByteArray → Bool → Option β, zj77 N a0 a1 K = cond (smallT a0 a1 4) (zj76 N N 0 a0 a1 [] relNames fun e => K e true) (K [] false) := fun K => by
    unfold zj77 smallT
    rw [spec_IsTable_eq]
    cases isT a0 a1 with
    | false => rfl
    | true =>
      rw [Bool.not_true, cond_false, Bool.true_and]
      by_cases h : a0 > 4
      · rw [decide_eq_true h, decide_eq_false (by omega)]; rfl
      · rw [decide_eq_false h, decide_eq_true (by omega)]; rfl
  have hi : ∀ K : List ByteArray → Bool → Option β, zj171 N a0 a1 K = cond (smallT a0 a1 4) (zj170 N relNames a0 a1 fun r0 r1 r2 => K r2 true) (K [] false) := fun K => by
    unfold zj171
    rw [impl_isSmall_eq N a0 a1 4 (by omega)]
    cases smallT a0 a1 4 <;> rfl
  cases hsm : smallT a0 a1 4 with
  | false => exact ⟨[], false, by simp, fun K => by rw [hs, hsm]; rfl, fun K => by rw [hi, hsm]; rfl⟩
  | true =>
    obtain ⟨q, hq⟩ := Classical.skolem.1 fun s => RelationHolds_both (β := β) N hN s a0 a1 h0 h1
    have hq1 : ∀ x (K : Bool → Option β), zj164 N x a0 a1 K = K (q x) := fun x K => by
      unfold zj164
      rw [(hq x).2]
    have hl6 : relNames.length = 6 := rfl
    refine ⟨relNames.filter (fun x => !q x), true, Nat.le_trans (List.length_filter_le _ _) (by omega), fun K => ?_, fun K => ?_⟩
    · rw [hs, hsm, cond_true]
      generalize relNames = l at hl6
      have main := loop_up (fun F i => zj76 N F (i : Int) a0 a1 ((l.take i).filter (fun x => !q x)) l fun e => K e true) l.length (K (l.filter fun x => !q x) true) (fun F i hi => ?_) (fun F => ?_) N 0 (by omega) (by omega)
      · exact main
      · have hlen := List.length_filter_le (fun x => !q x) (l.take i)
        rw [List.length_take] at hlen
        simp only [zj76, zj75]
        rw [decide_eq_true (by omega : (i : Int) < (l.length : Int)), cond_true, gd_true (decide_eq_true (by omega)), gd_true rfl, (hq _).1, rdB l i hi, w64_succ i (by omega), List.take_succ_eq_append_getElem hi, List.filter_append]
        cases hqi : q l[i] with
        | true =>
          rw [Bool.not_true, cond_false]
          simp [hqi]
        | false =>
          rw [Bool.not_false, cond_true, gd_true (decide_eq_true (by omega)), gd_true rfl, gd_true (decide_eq_true (by simp; omega))]
          simp [hqi]
      · simp only [zj76, zj75]
        rw [decide_eq_false (by omega), cond_false, List.take_of_length_le (Nat.le_refl _)]
    · rw [hi, hsm, cond_true, DeleteFunc_eq N hN q a0 a1 hq1 relNames (by omega)]

theorem law_BrokenRelations (N : Nat) (hN : 1048576 < N) (a0 a1 : Int) (h0 : -9223372036854775808 ≤ a0 ∧ a0 ≤ 9223372036854775807) (h1 : -9223372036854775808 ≤ a1 ∧ a1 ≤ 9223372036854775807) (k : Bool → Option β) :
    laws_FnExactBrokenRelations N a0 a1 k = k true := by
  obtain ⟨l, b, hl, e1, e2⟩ := Broken_both (β := β) N hN a0 a1 h0 h1
  have hex : ∀ i : Nat, ∃ r : ByteArray, i ≤ 1000000 → ∀ k : ByteArray → Option β, zj177 N (i : Int) k = k r := fun i => by
    by_cases h : i ≤ 1000000
    · obtain ⟨r, hr⟩ := markText_eq (β := β) N hN i h
      exact ⟨r, fun _ => hr⟩
    · exact ⟨ByteArray.empty, fun h' => absurd h' h⟩
  obtain ⟨f, hf⟩ := Classical.skolem.1 hex
  have h1n : ¬ (((1 + l.length : Nat) : Int) < 0) := by omega
  unfold laws_FnExactBrokenRelations zj0
  simp only [e1, e2, eqStringS_same N hN l (by omega), markStringS_eq N hN f hf l (by omega), heldStringS_eq N hN f hf l.length (by omega), beq_self_eq_true, bne_self_eq_false, Bool.not_true, cond_false, decide_eq_false h1n]
end Go.Proofs.Ytfdggelojmofmaa
