/- Sizes of formulas: what the program computes, in plain Lean. -/
import Derived.Test.YtmhlcbibbhelkaaDoorRvLib
namespace Go.Proofs.YtmhlcbibbhelkaaDoor
set_option linter.unusedVariables false
theorem getD_at {α : Type} {d : α} {l : List α} {i : Nat} (h : i < l.length) : l.getD i d = l[i] := by simp [List.getD, h]
theorem getD_past {α : Type} {d : α} {l : List α} {i : Nat} (h : l.length ≤ i) : l.getD i d = d := by simp [List.getD, List.getElem?_eq_none h]
theorem getD_app {α : Type} {d : α} {l m : List α} {i : Nat} (h : i < l.length) : (l ++ m).getD i d = l.getD i d := by simp [List.getD, List.getElem?_append_left h]
abbrev SS := List Int × List (List Nat)
/-- What taking a word does. -/
def takeS (x s : Nat) (st : SS) : SS := cond (decide (st.1.getD x 0 < 0)) (st.1.set x (s : Int), st.2.set s (st.2.getD s [] ++ [x])) st
def neg (l : List Int) : Nat := l.countP fun x => decide (x < 0)
theorem neg_set : ∀ (l : List Int) (x : Nat) (v : Int), l.getD x 0 < 0 → 0 ≤ v → neg (l.set x v) + 1 = neg l
  | [], x, v, h, _ => by simp at h
  | a :: l, 0, v, h, hv => by
    have h' : a < 0 := by simpa using h
    unfold neg
    rw [List.set_cons_zero, List.countP_cons, List.countP_cons, if_neg (by simp; omega), if_pos (by simpa using h')]
  | a :: l, x + 1, v, h, hv => by
    have h' : l.getD x 0 < 0 := by simpa using h
    have := neg_set l x v h' hv
    unfold neg at this ⊢
    rw [List.set_cons_succ, List.countP_cons, List.countP_cons]
    omega
structure Good (L : Nat) (st : SS) : Prop where
  len : st.1.length = L
  rows : ∀ l ∈ st.2, l.length + neg st.1 ≤ L ∧ ∀ x ∈ l, x < L
theorem Good.row {L : Nat} {st : SS} (h : Good L st) (s : Nat) : (st.2.getD s []).length ≤ L ∧ ∀ x ∈ st.2.getD s [], x < L := by
  by_cases hs : s < st.2.length
  · rw [getD_at hs]
    have := h.rows _ (List.getElem_mem hs)
    exact ⟨by omega, this.2⟩
  · rw [getD_past (by omega)]
    simp
theorem take_len (x s : Nat) (st : SS) : (takeS x s st).1.length = st.1.length ∧ (takeS x s st).2.length = st.2.length := by
  unfold takeS
  cases decide (st.1.getD x 0 < 0) <;> simp
theorem take_other (x s : Nat) (st : SS) (j : Nat) (h : j ≠ s) : (takeS x s st).2.getD j [] = st.2.getD j [] := by
  unfold takeS
  cases decide (st.1.getD x 0 < 0) with
  | false => rfl
  | true => simp [List.getD, List.getElem?_set_ne (fun e => h e.symm : s ≠ j)]
theorem Good.take {L : Nat} {st : SS} (h : Good L st) {x s : Nat} (hx : x < L) : Good L (takeS x s st) := by
  refine ⟨(take_len x s st).1.trans h.len, ?_⟩
  unfold takeS
  cases hd : decide (st.1.getD x 0 < 0) with
  | false => exact h.rows
  | true =>
    have hn := neg_set st.1 x (s : Int) (of_decide_eq_true hd) (by omega)
    intro l hl
    show l.length + neg (st.1.set x (s : Int)) ≤ L ∧ _
    replace hl : l ∈ st.2.set s (st.2.getD s [] ++ [x]) := hl
    rcases List.mem_or_eq_of_mem_set hl with h1 | h1
    · have := h.rows l h1
      exact ⟨by omega, this.2⟩
    · subst h1
      by_cases hs : s < st.2.length
      · have := h.rows _ (List.getElem_mem hs)
        rw [getD_at hs]
        refine ⟨by rw [List.length_append]; simp only [List.length_cons, List.length_nil]; omega, fun y hy => ?_⟩
        rcases List.mem_append.1 hy with hy | hy
        · exact this.2 y hy
        · simp at hy; omega
      · rw [List.set_eq_of_length_le (by omega)] at hl
        have := h.rows _ hl
        exact ⟨by omega, this.2⟩
/-- All pairs of a word with some. -/
def gst (f s : Nat) (gs : List Nat) (st : SS) : SS := gs.foldl (fun st g => takeS (f ||| g) s (takeS (f &&& g) s st)) st
/-- All pairs of two lists of words. -/
def fst_ (s : Nat) (fs gs : List Nat) (st : SS) : SS := fs.foldl (fun st f => gst f s gs st) st
/-- All pairs of words of sizes a ≤ b, a + b = s, for the first k sizes a. -/
def ast (s : Nat) (st : SS) (k : Nat) : SS := (List.range k).foldl (fun st i => fst_ s (st.2.getD (i + 1) []) (st.2.getD (s - (i + 1)) []) st) st
def outer : Nat → Nat → SS → Option (List Int)
  | 0, _, _ => none
  | F + 1, s, st => cond (st.1.contains (-1)) (outer F (s + 1) (ast s (st.1, st.2 ++ [[]]) (s / 2))) (some st.1)
/-- The table of a variable. -/
def vw (n i : Nat) : Nat := ((List.range (2 ^ n)).map fun x => cond (x.testBit i) (2 ^ x) 0).sum
def full (n : Nat) : Nat := 2 ^ 2 ^ n - 1
def start (n : Nat) : SS := (((List.replicate (2 ^ 2 ^ n) (-1 : Int)).set 0 0).set (full n) 0, [[], []])
def varS (n k : Nat) : SS := (List.range k).foldl (fun st i => takeS (vw n i ^^^ full n) 1 (takeS (vw n i) 1 st)) (start n)
def sizesI (n : Nat) : Option (List Int) := outer 40 2 (varS n n)
theorem gst_snoc (f s : Nat) (gs : List Nat) (g : Nat) (st : SS) : gst f s (gs ++ [g]) st = takeS (f ||| g) s (takeS (f &&& g) s (gst f s gs st)) := by simp [gst]
theorem fst_snoc (s : Nat) (fs gs : List Nat) (f : Nat) (st : SS) : fst_ s (fs ++ [f]) gs st = gst f s gs (fst_ s fs gs st) := by simp [fst_]
theorem ast_succ (s : Nat) (st : SS) (k : Nat) : ast s st (k + 1) = fst_ s ((ast s st k).2.getD (k + 1) []) ((ast s st k).2.getD (s - (k + 1)) []) (ast s st k) := by simp [ast, List.range_succ]
theorem varS_succ (n k : Nat) : varS n (k + 1) = takeS (vw n k ^^^ full n) 1 (takeS (vw n k) 1 (varS n k)) := by simp [varS, List.range_succ]
/-- What holds of the rows while words of size s are taken. -/
structure Keeps (L m s : Nat) (st st' : SS) : Prop where
  good : Good L st'
  len : st'.2.length = st.2.length
  other : ∀ j, j ≠ s → st'.2.getD j [] = st.2.getD j []
theorem Keeps.refl {L s : Nat} {st : SS} (h : Good L st) : Keeps L 0 s st st := ⟨h, rfl, fun _ _ => rfl⟩
theorem Keeps.take {L s x : Nat} {st st' : SS} (h : Keeps L 0 s st st') (hx : x < L) : Keeps L 0 s st (takeS x s st') :=
  ⟨h.good.take hx, (take_len x s st').2.trans h.len, fun j hj => (take_other x s st' j hj).trans (h.other j hj)⟩
theorem Keeps.trans {L s : Nat} {a b c : SS} (h : Keeps L 0 s a b) (h' : Keeps L 0 s b c) : Keeps L 0 s a c := ⟨h'.good, h'.len.trans h.len, fun j hj => (h'.other j hj).trans (h.other j hj)⟩
section
variable {k : Nat} {L : Nat} (hL : L = 2 ^ k)
include hL
theorem keeps_g {f s : Nat} (hf : f < L) : ∀ (gs : List Nat) (st st0 : SS), Keeps L 0 s st0 st → (∀ g ∈ gs, g < L) → Keeps L 0 s st0 (gst f s gs st)
  | [], st, _, h, _ => h
  | g :: gs, st, st0, h, hg => by
    have h1 := hg g (List.mem_cons_self ..)
    have a1 : f &&& g < L := by rw [hL] at h1 ⊢; exact Nat.and_lt_two_pow _ h1
    have a2 : f ||| g < L := by rw [hL] at h1 hf ⊢; exact Nat.or_lt_two_pow hf h1
    exact keeps_g hf gs _ _ ((h.take a1).take a2) fun x hx => hg x (List.mem_cons_of_mem _ hx)
theorem keeps_f {s : Nat} {gs : List Nat} (hg : ∀ g ∈ gs, g < L) : ∀ (fs : List Nat) (st st0 : SS), Keeps L 0 s st0 st → (∀ f ∈ fs, f < L) → Keeps L 0 s st0 (fst_ s fs gs st)
  | [], st, _, h, _ => h
  | f :: fs, st, st0, h, hf => keeps_f hg fs _ _ (keeps_g hL (hf f (List.mem_cons_self ..)) gs _ _ h hg) fun x hx => hf x (List.mem_cons_of_mem _ hx)
theorem keeps_a {s : Nat} {st : SS} (h : Good L st) : ∀ m, m ≤ s / 2 → Keeps L 0 s st (ast s st m)
  | 0, _ => Keeps.refl h
  | m + 1, hm => by
    have ih := keeps_a (s := s) h m (by omega)
    rw [ast_succ]
    exact keeps_f hL (ih.good.row _).2 _ _ _ ih (ih.good.row _).2
end
theorem Good.snoc {L : Nat} {st : SS} (h : Good L st) : Good L (st.1, st.2 ++ [[]]) := ⟨h.len, fun l hl => by
  rcases List.mem_append.1 hl with h1 | h1
  · exact h.rows l h1
  · simp at h1; subst h1
    have : neg st.1 ≤ st.1.length := List.countP_le_length
    have := h.len
    exact ⟨by simp; omega, by simp⟩⟩
theorem good_start (n : Nat) : Good (2 ^ 2 ^ n) (start n) := by
  refine ⟨by simp [start], fun l hl => ?_⟩
  have : neg (start n).1 ≤ (start n).1.length := List.countP_le_length
  have e : (start n).1.length = 2 ^ 2 ^ n := by simp [start]
  have hl' : l = [] := by simpa [start] using hl
  subst hl'
  exact ⟨by simp; omega, by simp⟩
theorem vw_lt : ∀ n, n ≤ 3 → ∀ i, i < n → vw n i < 2 ^ 2 ^ n ∧ vw n i ^^^ full n < 2 ^ 2 ^ n := by decide +kernel
theorem keeps_v {n : Nat} (hn : n ≤ 3) : ∀ k, k ≤ n → Keeps (2 ^ 2 ^ n) 0 1 (start n) (varS n k)
  | 0, _ => Keeps.refl (good_start n)
  | k + 1, hk => by
    rw [varS_succ]
    have := vw_lt n hn k (by omega)
    exact ((keeps_v hn k (by omega)).take this.1).take this.2
end Go.Proofs.YtmhlcbibbhelkaaDoor
