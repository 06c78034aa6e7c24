/- Sizes of formulas: what the reference computes, in plain Lean. -/
import Derived.Test.YtmhlcbibbhelkaaDoorSizM
namespace Go.Proofs.YtmhlcbibbhelkaaDoor
set_option linter.unusedVariables false
/-- Sizes, the words of this size, how many words are left. -/
abbrev SZ := List Int × List Nat × Int
def zero (l : List Int) : Nat := l.countP fun x => decide (x = 0)
theorem zero_set : ∀ (l : List Int) (x : Nat) (v : Int), x < l.length → l.getD x 0 = 0 → v ≠ 0 → zero (l.set x v) + 1 = zero l
  | [], x, v, h, _, _ => by simp at h
  | a :: l, 0, v, _, h, hv => by
    have h' : a = 0 := by simpa using h
    unfold zero
    rw [List.set_cons_zero, List.countP_cons, List.countP_cons, if_neg (by simp; omega), if_pos (by simpa using h')]
  | a :: l, x + 1, v, hx, h, hv => by
    have h' : l.getD x 0 = 0 := by simpa using h
    have := zero_set l x v (by simpa using hx) h' hv
    unfold zero at this ⊢
    rw [List.set_cons_succ, List.countP_cons, List.countP_cons]
    omega
/-- A word is taken, if it has no size and is no constant. -/
def takeZ (fu x s : Nat) (st : SZ) : SZ := cond (decide (st.1.getD x 0 = 0) && decide (0 < x) && decide (x < fu)) (st.1.set x (s : Int), st.2.1 ++ [x], st.2.2 - 1) st
structure GoodZ (L : Nat) (st : SZ) : Prop where
  len : st.1.length = L
  row : st.2.1.length + zero st.1 ≤ L
  words : ∀ x ∈ st.2.1, x < L
  left : st.2.2 + 2 = zero st.1
theorem GoodZ.take {L : Nat} {st : SZ} (h : GoodZ L st) {fu x s : Nat} (hx : x < L) (hs : 0 < s) : GoodZ L (takeZ fu x s st) := by
  unfold takeZ
  cases hd : (decide (st.1.getD x 0 = 0) && decide (0 < x) && decide (x < fu)) with
  | false => exact h
  | true =>
    rw [Bool.and_eq_true, Bool.and_eq_true] at hd
    have hz := zero_set st.1 x (s : Int) (by rw [h.len]; exact hx) (of_decide_eq_true hd.1.1) (by omega)
    have h1 := h.row
    have h2 := h.left
    refine ⟨by show (st.1.set x _).length = L; rw [List.length_set]; exact h.len, ?_, fun y hy => ?_, ?_⟩
    · show (st.2.1 ++ [x]).length + zero (st.1.set x (s : Int)) ≤ L
      rw [List.length_append]
      simp only [List.length_cons, List.length_nil]
      omega
    · rcases List.mem_append.1 hy with hy | hy
      · exact h.words y hy
      · simp at hy; omega
    · show st.2.2 - 1 + 2 = (zero (st.1.set x (s : Int)) : Int)
      omega
def zg (fu f s : Nat) (gs : List Nat) (st : SZ) : SZ := gs.foldl (fun st g => takeZ fu (f ||| g) s (takeZ fu (f &&& g) s st)) st
def zf (fu s : Nat) (fs gs : List Nat) (st : SZ) : SZ := fs.foldl (fun st f => zg fu f s gs st) st
def za (fu s : Nat) (bys : List (List Nat)) (st : SZ) (k : Nat) : SZ := (List.range k).foldl (fun st i => zf fu s (bys.getD (i + 1) []) (bys.getD (s - (i + 1)) []) st) st
def outerZ (fu : Nat) : Nat → Nat → List Int → List (List Nat) → Int → Option (List Int)
  | 0, _, _, _, _ => none
  | F + 1, s, os, bys, left => cond (decide (left > 0)) (outerZ fu F (s + 1) (za fu s bys (os, [], left) (s - 1)).1 (bys ++ [(za fu s bys (os, [], left) (s - 1)).2.1]) (za fu s bys (os, [], left) (s - 1)).2.2) (some os)
def varZ (n k : Nat) : List Int × List Nat := (List.range k).foldl (fun st i => ((st.1.set (vw n i) 1).set (full n - vw n i) 1, st.2 ++ [vw n i, full n - vw n i])) (List.replicate (2 ^ 2 ^ n) 0, [])
def sizesZ (n : Nat) : Option (List Int) := outerZ (full n) 40 2 (varZ n n).1 [[], (varZ n n).2] (((2 ^ 2 ^ n : Nat) : Int) - 2 - 2 * (n : Int))
theorem zg_snoc (fu f s : Nat) (gs : List Nat) (g : Nat) (st : SZ) : zg fu f s (gs ++ [g]) st = takeZ fu (f ||| g) s (takeZ fu (f &&& g) s (zg fu f s gs st)) := by simp [zg]
theorem zf_snoc (fu s : Nat) (fs gs : List Nat) (f : Nat) (st : SZ) : zf fu s (fs ++ [f]) gs st = zg fu f s gs (zf fu s fs gs st) := by simp [zf]
theorem za_succ (fu s : Nat) (bys : List (List Nat)) (st : SZ) (k : Nat) : za fu s bys st (k + 1) = zf fu s (bys.getD (k + 1) []) (bys.getD (s - (k + 1)) []) (za fu s bys st k) := by simp [za, List.range_succ]
theorem varZ_succ (n k : Nat) : varZ n (k + 1) = (((varZ n k).1.set (vw n k) 1).set (full n - vw n k) 1, (varZ n k).2 ++ [vw n k, full n - vw n k]) := by simp [varZ, List.range_succ]
/-- Rows of words. -/
def Words (L : Nat) (bys : List (List Nat)) : Prop := ∀ l ∈ bys, l.length ≤ L ∧ ∀ x ∈ l, x < L
theorem Words.row {L : Nat} {bys : List (List Nat)} (h : Words L bys) (s : Nat) : (bys.getD s []).length ≤ L ∧ ∀ x ∈ bys.getD s [], x < L := by
  by_cases hs : s < bys.length
  · rw [getD_at hs]; exact h _ (List.getElem_mem hs)
  · rw [getD_past (by omega)]; simp
section
variable {k : Nat} {L fu : Nat} (hL : L = 2 ^ k)
include hL
theorem good_zg {f s : Nat} (hs : 0 < s) (hf : f < L) : ∀ (gs : List Nat) (st : SZ), GoodZ L st → (∀ g ∈ gs, g < L) → GoodZ L (zg fu f s gs st)
  | [], st, h, _ => h
  | g :: gs, st, h, hg => by
    have h1 := hg g (List.mem_cons_self ..)
    have a1 : f &&& g < L := by rw [hL] at h1 ⊢; exact Nat.and_lt_two_pow _ h1
    have a2 : f ||| g < L := by rw [hL] at h1 hf ⊢; exact Nat.or_lt_two_pow hf h1
    exact good_zg hs hf gs _ ((h.take a1 hs).take a2 hs) fun x hx => hg x (List.mem_cons_of_mem _ hx)
theorem good_zf {s : Nat} (hs : 0 < s) {gs : List Nat} (hg : ∀ g ∈ gs, g < L) : ∀ (fs : List Nat) (st : SZ), GoodZ L st → (∀ f ∈ fs, f < L) → GoodZ L (zf fu s fs gs st)
  | [], st, h, _ => h
  | f :: fs, st, h, hf => good_zf hs hg fs _ (good_zg hL hs (hf f (List.mem_cons_self ..)) gs _ h hg) fun x hx => hf x (List.mem_cons_of_mem _ hx)
theorem good_za {s : Nat} (hs : 0 < s) {bys : List (List Nat)} (hb : Words L bys) {st : SZ} (h : GoodZ L st) : ∀ m, GoodZ L (za fu s bys st m)
  | 0 => h
  | m + 1 => by
    rw [za_succ]
    exact good_zf hL hs (hb.row _).2 _ _ (good_za hs hb h m) (hb.row _).2
end
theorem vz_lt : ∀ n, n ≤ 3 → ∀ i, i < n → vw n i < 2 ^ 2 ^ n ∧ vw n i ≤ full n := by decide +kernel
theorem varZ_ok : ∀ n, n ≤ 3 → ∀ i, i < n + 1 → (varZ n i).1.length = 2 ^ 2 ^ n ∧ (varZ n i).2.length = 2 * i ∧ ((varZ n i).2.all fun x => decide (x < 2 ^ 2 ^ n)) = true := by decide +kernel
theorem varZ_left : ∀ n : Nat, n ≤ 3 → ((2 ^ 2 ^ n : Nat) : Int) - 2 - 2 * (n : Int) + 2 = ((zero (varZ n n).1 : Nat) : Int) := by decide +kernel
/-- The two words of a pair, one after the other. -/
def qst (fu s x1 x2 : Nat) (st : SZ) : Nat → SZ
  | 0 => st
  | q + 1 => takeZ fu (cond (Nat.beq q 0) x1 x2) s (qst fu s x1 x2 st q)
theorem good_q {L fu s x1 x2 : Nat} {st : SZ} (h : GoodZ L st) (h1 : x1 < L) (h2 : x2 < L) (hs : 0 < s) : ∀ q, GoodZ L (qst fu s x1 x2 st q)
  | 0 => h
  | q + 1 => (good_q h h1 h2 hs q).take (by cases Nat.beq q 0 <;> assumption) hs
theorem takeZ_no {fu x s : Nat} {st : SZ} (h : ¬ (st.1.getD x 0 = 0 ∧ 0 < x ∧ x < fu)) : takeZ fu x s st = st := by
  unfold takeZ
  rw [show (decide (st.1.getD x 0 = 0) && decide (0 < x) && decide (x < fu)) = false by
    rw [Bool.eq_false_iff]; intro e; rw [Bool.and_eq_true, Bool.and_eq_true] at e
    exact h ⟨of_decide_eq_true e.1.1, of_decide_eq_true e.1.2, of_decide_eq_true e.2⟩]
  rfl
theorem takeZ_yes {fu x s : Nat} {st : SZ} (h1 : st.1.getD x 0 = 0) (h2 : 0 < x) (h3 : x < fu) : takeZ fu x s st = (st.1.set x (s : Int), st.2.1 ++ [x], st.2.2 - 1) := by
  unfold takeZ
  rw [decide_eq_true h1, decide_eq_true h2, decide_eq_true h3]
  rfl
end Go.Proofs.YtmhlcbibbhelkaaDoor
