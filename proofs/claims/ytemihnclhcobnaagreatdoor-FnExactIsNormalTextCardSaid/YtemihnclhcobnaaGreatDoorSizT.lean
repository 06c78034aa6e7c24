/- Sizes of formulas: what the program computes, in plain Lean. -/
import Derived.Test.YtemihnclhcobnaaGreatDoorRvLib
import Derived.Test.YtemihnclhcobnaaGreatDoorRvLaw
namespace Go.Proofs.YtemihnclhcobnaaGreatDoor
open Go.Rv
set_option linter.unusedVariables false
theorem mb {α : Type} {d : α} {l : List α} {i : Nat} (h : i < l.length) : l.getD i d = l[i] := by simp [List.getD, h]
theorem mc {α : Type} {d : α} {l : List α} {i : Nat} (h : l.length <= i) : l.getD i d = d := by simp [List.getD, amG h]
theorem db {α : Type} {d : α} {l m : List α} {i : Nat} (h : i < l.length) : (l ++ m).getD i d = l.getD i d := by simp [List.getD, amB h]
abbrev SS := List Int × List (List Nat)
def aU (x s : Nat) (st : SS) : SS := cond (decide (st.1.getD x 0 < 0)) (st.1.set x (s : Int), st.2.set s (st.2.getD s [] ++ [x])) st
def neg (l : List Int) : Nat := l.countP fun x => decide (x < 0)
theorem G1 : ∀ (l : List Int) (x : Nat) (v : Int), l.getD x 0 < 0 -> 0 <= v -> neg (l.set x v) + 1 = neg l
 | [], x, v, h, _ => by simp at h
 | a :: l, 0, v, h, hv => by
  have h' : a < 0 := by simpa using h
  unfold neg
  rw [al9, akP, akP, if_neg (by simp; omega), if_pos (by simpa using h')]
 | a :: l, x + 1, v, h, hv => by
  have h' : l.getD x 0 < 0 := by simpa using h
  have := G1 l x v h' hv
  unfold neg at this ⊢
  rw [al8, akP, akP]
  omega
structure oL (L : Nat) (st : SS) : Prop where
 len : st.1.length = L
 rows : ∀ l ∈ st.2, l.length + neg st.1 <= L /\ ∀ x ∈ l, x < L
theorem oL.row {L : Nat} {st : SS} (h : oL L st) (s : Nat) : (st.2.getD s []).length <= L /\ ∀ x ∈ st.2.getD s [], x < L := by
 by_cases hs : s < st.2.length
 ·rw [mb hs]
  have := h.rows _ (akn hs)
  exact ⟨by omega, this.2⟩
 ·rw [mc (by omega)]
  simp
theorem pK (x s : Nat) (st : SS) : (aU x s st).1.length = st.1.length /\ (aU x s st).2.length = st.2.length := by
 unfold aU
 cases decide (st.1.getD x 0 < 0) <;> simp
theorem vv (x s : Nat) (st : SS) (j : Nat) (h : j ≠ s) : (aU x s st).2.getD j [] = st.2.getD j [] := by
 unfold aU
 cases decide (st.1.getD x 0 < 0) with
 | false => rfl
 | true => simp [List.getD, amK (fun e => h e.symm : s ≠ j)]
theorem oL.take {L : Nat} {st : SS} (h : oL L st) {x s : Nat} (hx : x < L) : oL L (aU x s st) := by
 refine ⟨(pK x s st).1.trans h.len, ?_⟩
 unfold aU
 cases hd : decide (st.1.getD x 0 < 0) with
 | false => exact h.rows
 | true =>
  have hn := G1 st.1 x (s : Int) (of_decide_eq_true hd) (by omega)
  intro l hl
  show l.length + neg (st.1.set x (s : Int)) <= L /\ _
  replace hl : l ∈ st.2.set s (st.2.getD s [] ++ [x]) := hl
  rcases List.mem_or_eq_of_mem_set hl with h1 | h1
  ·have := h.rows l h1
   exact ⟨by omega, this.2⟩
  ·subst h1
   by_cases hs : s < st.2.length
   ·have := h.rows _ (akn hs)
    rw [mb hs]
    refine ⟨by rw [aj6]; simp only [aj4, aki]; omega, fun y hy => ?_⟩
    rcases akC.1 hy with hy | hy
    ·exact this.2 y hy
    ·simp at hy; omega
   ·rw [List.set_eq_of_length_le (by omega)] at hl
    have := h.rows _ hl
    exact ⟨by omega, this.2⟩
def gst (f s : Nat) (gs : List Nat) (st : SS) : SS := gs.foldl (fun st g => aU (f ||| g) s (aU (f &&& g) s st)) st
def o8 (s : Nat) (fs gs : List Nat) (st : SS) : SS := fs.foldl (fun st f => gst f s gs st) st
def ast (s : Nat) (st : SS) (k : Nat) : SS := (List.range k).foldl (fun st i => o8 s (st.2.getD (i + 1) []) (st.2.getD (s - (i + 1)) []) st) st
def fJ : Nat -> Nat -> SS -> Option (List Int)
 | 0, _, _ => none
 | F + 1, s, st => cond (st.1.contains (-1)) (fJ F (s + 1) (ast s (st.1, st.2 ++ [[]]) (s / 2))) (some st.1)
def vw (n i : Nat) : Nat := ((List.range (2 ^ n)).map fun x => cond (x.testBit i) (2 ^ x) 0).sum
def full (n : Nat) : Nat := 2 ^ 2 ^ n - 1
def cS (n : Nat) : SS := (((List.replicate (2 ^ 2 ^ n) (-1 : Int)).set 0 0).set (full n) 0, [[], []])
def dt (n k : Nat) : SS := (List.range k).foldl (fun st i => aU (vw n i ^^^ full n) 1 (aU (vw n i) 1 st)) (cS n)
def qI (n : Nat) : Option (List Int) := fJ 40 2 (dt n n)
theorem Np (f s : Nat) (gs : List Nat) (g : Nat) (st : SS) : gst f s (gs ++ [g]) st = aU (f ||| g) s (aU (f &&& g) s (gst f s gs st)) := by simp [gst]
theorem Ng (s : Nat) (fs gs : List Nat) (f : Nat) (st : SS) : o8 s (fs ++ [f]) gs st = gst f s gs (o8 s fs gs st) := by simp [o8]
theorem sR (s : Nat) (st : SS) (k : Nat) : ast s st (k + 1) = o8 s ((ast s st k).2.getD (k + 1) []) ((ast s st k).2.getD (s - (k + 1)) []) (ast s st k) := by simp [ast, ak9]
theorem yf (n k : Nat) : dt n (k + 1) = aU (vw n k ^^^ full n) 1 (aU (vw n k) 1 (dt n k)) := by simp [dt, ak9]
structure du (L m s : Nat) (st st' : SS) : Prop where
 good : oL L st'
 len : st'.2.length = st.2.length
 other : ∀ j, j ≠ s -> st'.2.getD j [] = st.2.getD j []
theorem du.refl {L s : Nat} {st : SS} (h : oL L st) : du L 0 s st st := ⟨h, rfl, fun _ _ => rfl⟩
theorem du.take {L s x : Nat} {st st' : SS} (h : du L 0 s st st') (hx : x < L) : du L 0 s st (aU x s st') :=
 ⟨h.good.take hx, (pK x s st').2.trans h.len, fun j hj => (vv x s st' j hj).trans (h.other j hj)⟩
theorem du.trans {L s : Nat} {a b c : SS} (h : du L 0 s a b) (h' : du L 0 s b c) : du L 0 s a c := ⟨h'.good, h'.len.trans h.len, fun j hj => (h'.other j hj).trans (h.other j hj)⟩
section
variable {k : Nat} {L : Nat} (hL : L = 2 ^ k)
include hL
theorem zx {f s : Nat} (hf : f < L) : ∀ (gs : List Nat) (st st0 : SS), du L 0 s st0 st -> (∀ g ∈ gs, g < L) -> du L 0 s st0 (gst f s gs st)
 | [], st, _, h, _ => h
 | g :: gs, st, st0, h, hg => by
  have h1 := hg g (ako ..)
  have a1 : f &&& g < L := by rw [hL] at h1 ⊢; exact alb _ h1
  have a2 : f ||| g < L := by rw [hL] at h1 hf ⊢; exact akL hf h1
  exact zx hf gs _ _ ((h.take a1).take a2) fun x hx => hg x (ake _ hx)
theorem zw {s : Nat} {gs : List Nat} (hg : ∀ g ∈ gs, g < L) : ∀ (fs : List Nat) (st st0 : SS), du L 0 s st0 st -> (∀ f ∈ fs, f < L) -> du L 0 s st0 (o8 s fs gs st)
 | [], st, _, h, _ => h
 | f :: fs, st, st0, h, hf => zw hg fs _ _ (zx hL (hf f (ako ..)) gs _ _ h hg) fun x hx => hf x (ake _ hx)
theorem ph {s : Nat} {st : SS} (h : oL L st) : ∀ m, m <= s / 2 -> du L 0 s st (ast s st m)
 | 0, _ => du.refl h
 | m + 1, hm => by
  have ih := ph (s := s) h m (by omega)
  rw [sR]
  exact zw hL (ih.good.row _).2 _ _ _ ih (ih.good.row _).2
end
theorem oL.snoc {L : Nat} {st : SS} (h : oL L st) : oL L (st.1, st.2 ++ [[]]) := ⟨h.len, fun l hl => by
 rcases akC.1 hl with h1 | h1
 ·exact h.rows l h1
 ·simp at h1; subst h1
  have : neg st.1 <= st.1.length := alm
  have := h.len
  exact ⟨by simp; omega, by simp⟩⟩
theorem D9 (n : Nat) : oL (2 ^ 2 ^ n) (cS n) := by
 refine ⟨by simp [cS], fun l hl => ?_⟩
 have : neg (cS n).1 <= (cS n).1.length := alm
 have e : (cS n).1.length = 2 ^ 2 ^ n := by simp [cS]
 have hl' : l = [] := by simpa [cS] using hl
 subst hl'
 exact ⟨by simp; omega, by simp⟩
theorem HD : ∀ n, n <= 3 -> ∀ i, i < n -> vw n i < 2 ^ 2 ^ n /\ vw n i ^^^ full n < 2 ^ 2 ^ n := by decide +kernel
theorem rO {n : Nat} (hn : n <= 3) : ∀ k, k <= n -> du (2 ^ 2 ^ n) 0 1 (cS n) (dt n k)
 | 0, _ => du.refl (D9 n)
 | k + 1, hk => by
  rw [yf]
  have := HD n hn k (by omega)
  exact ((rO hn k (by omega)).take this.1).take this.2
abbrev SZ := List Int × List Nat × Int
def zero (l : List Int) : Nat := l.countP fun x => decide (x = 0)
theorem Dr : ∀ (l : List Int) (x : Nat) (v : Int), x < l.length -> l.getD x 0 = 0 -> v ≠ 0 -> zero (l.set x v) + 1 = zero l
 | [], x, v, h, _, _ => by simp at h
 | a :: l, 0, v, _, h, hv => by
  have h' : a = 0 := by simpa using h
  unfold zero
  rw [al9, akP, akP, if_neg (by simp; omega), if_pos (by simpa using h')]
 | a :: l, x + 1, v, hx, h, hv => by
  have h' : l.getD x 0 = 0 := by simpa using h
  have := Dr l x v (by simpa using hx) h' hv
  unfold zero at this ⊢
  rw [al8, akP, akP]
  omega
def cw (fu x s : Nat) (st : SZ) : SZ := cond (decide (st.1.getD x 0 = 0) && decide (0 < x) && decide (x < fu)) (st.1.set x (s : Int), st.2.1 ++ [x], st.2.2 - 1) st
structure gR (L : Nat) (st : SZ) : Prop where
 len : st.1.length = L
 row : st.2.1.length + zero st.1 <= L
 words : ∀ x ∈ st.2.1, x < L
 left : st.2.2 + 2 = zero st.1
theorem gR.take {L : Nat} {st : SZ} (h : gR L st) {fu x s : Nat} (hx : x < L) (hs : 0 < s) : gR L (cw fu x s st) := by
 unfold cw
 cases hd : (decide (st.1.getD x 0 = 0) && decide (0 < x) && decide (x < fu)) with
 | false => exact h
 | true =>
  rw [aj0, aj0] at hd
  have hz := Dr st.1 x (s : Int) (by rw [h.len]; exact hx) (of_decide_eq_true hd.1.1) (by omega)
  have h1 := h.row
  have h2 := h.left
  refine ⟨by show (st.1.set x _).length = L; rw [akA]; exact h.len, ?_, fun y hy => ?_, ?_⟩
  ·show (st.2.1 ++ [x]).length + zero (st.1.set x (s : Int)) <= L
   rw [aj6]
   simp only [aj4, aki]
   omega
  ·rcases akC.1 hy with hy | hy
   ·exact h.words y hy
   ·simp at hy; omega
  ·show st.2.2 - 1 + 2 = (zero (st.1.set x (s : Int)) : Int)
   omega
def zg (fu f s : Nat) (gs : List Nat) (st : SZ) : SZ := gs.foldl (fun st g => cw fu (f ||| g) s (cw fu (f &&& g) s st)) st
def zf (fu s : Nat) (fs gs : List Nat) (st : SZ) : SZ := fs.foldl (fun st f => zg fu f s gs st) st
def za (fu s : Nat) (bys : List (List Nat)) (st : SZ) (k : Nat) : SZ := (List.range k).foldl (fun st i => zf fu s (bys.getD (i + 1) []) (bys.getD (s - (i + 1)) []) st) st
def qz (fu : Nat) : Nat -> Nat -> List Int -> List (List Nat) -> Int -> Option (List Int)
 | 0, _, _, _, _ => none
 | F + 1, s, os, bys, left => cond (decide (left > 0)) (qz fu F (s + 1) (za fu s bys (os, [], left) (s - 1)).1 (bys ++ [(za fu s bys (os, [], left) (s - 1)).2.1]) (za fu s bys (os, [], left) (s - 1)).2.2) (some os)
def eM (n k : Nat) : List Int × List Nat := (List.range k).foldl (fun st i => ((st.1.set (vw n i) 1).set (full n - vw n i) 1, st.2 ++ [vw n i, full n - vw n i])) (List.replicate (2 ^ 2 ^ n) 0, [])
def vc (n : Nat) : Option (List Int) := qz (full n) 40 2 (eM n n).1 [[], (eM n n).2] (((2 ^ 2 ^ n : Nat) : Int) - 2 - 2 * (n : Int))
theorem VU (fu f s : Nat) (gs : List Nat) (g : Nat) (st : SZ) : zg fu f s (gs ++ [g]) st = cw fu (f ||| g) s (cw fu (f &&& g) s (zg fu f s gs st)) := by simp [zg]
theorem VT (fu s : Nat) (fs gs : List Nat) (f : Nat) (st : SZ) : zf fu s (fs ++ [f]) gs st = zg fu f s gs (zf fu s fs gs st) := by simp [zf]
theorem Aw (fu s : Nat) (bys : List (List Nat)) (st : SZ) (k : Nat) : za fu s bys st (k + 1) = zf fu s (bys.getD (k + 1) []) (bys.getD (s - (k + 1)) []) (za fu s bys st k) := by simp [za, ak9]
theorem KO (n k : Nat) : eM n (k + 1) = (((eM n k).1.set (vw n k) 1).set (full n - vw n k) 1, (eM n k).2 ++ [vw n k, full n - vw n k]) := by simp [eM, ak9]
def sJ (L : Nat) (bys : List (List Nat)) : Prop := ∀ l ∈ bys, l.length <= L /\ ∀ x ∈ l, x < L
theorem sJ.row {L : Nat} {bys : List (List Nat)} (h : sJ L bys) (s : Nat) : (bys.getD s []).length <= L /\ ∀ x ∈ bys.getD s [], x < L := by
 by_cases hs : s < bys.length
 ·rw [mb hs]; exact h _ (akn hs)
 ·rw [mc (by omega)]; simp
section
variable {k : Nat} {L fu : Nat} (hL : L = 2 ^ k)
include hL
theorem zn {f s : Nat} (hs : 0 < s) (hf : f < L) : ∀ (gs : List Nat) (st : SZ), gR L st -> (∀ g ∈ gs, g < L) -> gR L (zg fu f s gs st)
 | [], st, h, _ => h
 | g :: gs, st, h, hg => by
  have h1 := hg g (ako ..)
  have a1 : f &&& g < L := by rw [hL] at h1 ⊢; exact alb _ h1
  have a2 : f ||| g < L := by rw [hL] at h1 hf ⊢; exact akL hf h1
  exact zn hs hf gs _ ((h.take a1 hs).take a2 hs) fun x hx => hg x (ake _ hx)
theorem zm {s : Nat} (hs : 0 < s) {gs : List Nat} (hg : ∀ g ∈ gs, g < L) : ∀ (fs : List Nat) (st : SZ), gR L st -> (∀ f ∈ fs, f < L) -> gR L (zf fu s fs gs st)
 | [], st, h, _ => h
 | f :: fs, st, h, hf => zm hs hg fs _ (zn hL hs (hf f (ako ..)) gs _ h hg) fun x hx => hf x (ake _ hx)
theorem zk {s : Nat} (hs : 0 < s) {bys : List (List Nat)} (hb : sJ L bys) {st : SZ} (h : gR L st) : ∀ m, gR L (za fu s bys st m)
 | 0 => h
 | m + 1 => by
  rw [Aw]
  exact zm hL hs (hb.row _).2 _ _ (zk hs hb h m) (hb.row _).2
end
theorem W0 : ∀ n, n <= 3 -> ∀ i, i < n -> vw n i < 2 ^ 2 ^ n /\ vw n i <= full n := by decide +kernel
theorem Au : ∀ n, n <= 3 -> ∀ i, i < n + 1 -> (eM n i).1.length = 2 ^ 2 ^ n /\ (eM n i).2.length = 2 * i /\ ((eM n i).2.all fun x => decide (x < 2 ^ 2 ^ n)) = true := by decide +kernel
theorem yg : ∀ n : Nat, n <= 3 -> ((2 ^ 2 ^ n : Nat) : Int) - 2 - 2 * (n : Int) + 2 = ((zero (eM n n).1 : Nat) : Int) := by decide +kernel
def qst (fu s x1 x2 : Nat) (st : SZ) : Nat -> SZ
 | 0 => st
 | q + 1 => cw fu (cond (Nat.beq q 0) x1 x2) s (qst fu s x1 x2 st q)
theorem Nn {L fu s x1 x2 : Nat} {st : SZ} (h : gR L st) (h1 : x1 < L) (h2 : x2 < L) (hs : 0 < s) : ∀ q, gR L (qst fu s x1 x2 st q)
 | 0 => h
 | q + 1 => (Nn h h1 h2 hs q).take (by cases Nat.beq q 0 <;> assumption) hs
theorem pJ {fu x s : Nat} {st : SZ} (h : ¬ (st.1.getD x 0 = 0 /\ 0 < x /\ x < fu)) : cw fu x s st = st := by
 unfold cw
 rw [show (decide (st.1.getD x 0 = 0) && decide (0 < x) && decide (x < fu)) = false by
  rw [Bool.eq_false_iff]; intro e; rw [aj0, aj0] at e
  exact h ⟨of_decide_eq_true e.1.1, of_decide_eq_true e.1.2, of_decide_eq_true e.2⟩]
 rfl
theorem ye {fu x s : Nat} {st : SZ} (h1 : st.1.getD x 0 = 0) (h2 : 0 < x) (h3 : x < fu) : cw fu x s st = (st.1.set x (s : Int), st.2.1 ++ [x], st.2.2 - 1) := by
 unfold cw
 rw [ajX h1, ajX h2, ajX h3]
 rfl
set_option linter.unusedSimpArgs false
def ns (s : Nat) (ws : List Nat) (st : SS) : SS := ws.foldl (fun st w => aU w s st) st
def mI (fu s : Nat) (ws : List Nat) (st : SZ) : SZ := ws.foldl (fun st w => cw fu w s st) st
def prs (fs gs : List Nat) : List Nat := fs.flatMap fun f => gs.flatMap fun g => [f &&& g, f ||| g]
theorem GT (f s : Nat) : ∀ (gs : List Nat) (st : SS), gst f s gs st = ns s (gs.flatMap fun g => [f &&& g, f ||| g]) st
 | [], _ => rfl
 | g :: gs, st => by
  show gst f s gs (aU (f ||| g) s (aU (f &&& g) s st)) = _
  rw [GT f s gs]
  rfl
theorem BC (s : Nat) (a b : List Nat) (st : SS) : ns s (a ++ b) st = ns s b (ns s a st) := List.foldl_append
theorem BD (fu s : Nat) (a b : List Nat) (st : SZ) : mI fu s (a ++ b) st = mI fu s b (mI fu s a st) := List.foldl_append
theorem GN (s : Nat) (gs : List Nat) : ∀ (fs : List Nat) (st : SS), o8 s fs gs st = ns s (prs fs gs) st
 | [], _ => rfl
 | f :: fs, st => by
  show o8 s fs gs (gst f s gs st) = _
  rw [GN s gs fs, GT]
  unfold prs
  rw [akR, BC]
theorem Qa (fu f s : Nat) : ∀ (gs : List Nat) (st : SZ), zg fu f s gs st = mI fu s (gs.flatMap fun g => [f &&& g, f ||| g]) st
 | [], _ => rfl
 | g :: gs, st => by
  show zg fu f s gs (cw fu (f ||| g) s (cw fu (f &&& g) s st)) = _
  rw [Qa fu f s gs]
  rfl
theorem P9 (fu s : Nat) (gs : List Nat) : ∀ (fs : List Nat) (st : SZ), zf fu s fs gs st = mI fu s (prs fs gs) st
 | [], _ => rfl
 | f :: fs, st => by
  show zf fu s fs gs (zg fu f s gs st) = _
  rw [P9 fu s gs fs, Qa]
  unfold prs
  rw [akR, BD]
theorem nt (s : Nat) (j : Nat) (h : j ≠ s) : ∀ (ws : List Nat) (st : SS), (ns s ws st).2.getD j [] = st.2.getD j []
 | [], _ => rfl
 | w :: ws, st => by
  show (ns s ws (aU w s st)).2.getD j [] = _
  rw [nt s j h ws, vv w s st j h]
def bX (s : Nat) (bys : List (List Nat)) (k : Nat) : List Nat := (List.range k).flatMap fun i => prs (bys.getD (i + 1) []) (bys.getD (s - (i + 1)) [])
theorem yN (s : Nat) (st : SS) : ∀ k, k < s -> ast s st k = ns s (bX s st.2 k) st
 | 0, _ => rfl
 | k + 1, hk => by
  have ih := yN s st k (by omega)
  rw [sR, GN, ih, nt s (k + 1) (by omega), nt s (s - (k + 1)) (by omega)]
  unfold bX
  rw [ak9, List.flatMap_append, BC]
  simp
theorem Pf (fu s : Nat) (bys : List (List Nat)) (st : SZ) : ∀ k, za fu s bys st k = mI fu s (bX s bys k) st
 | 0 => rfl
 | k + 1 => by
  rw [Aw, P9, Pf fu s bys st k]
  unfold bX
  rw [ak9, List.flatMap_append, BD]
  simp
def gt (l : List Int) (i : Nat) : Int := l.getD i 0
theorem tu {l : List Int} {x y : Nat} {v : Int} (hx : x < l.length) : gt (l.set x v) y = if x = y then v else gt l y := by
 unfold gt
 by_cases e : x = y
 ·subst e; simp [List.getD, hx]
 ·simp [List.getD, e]
theorem yJ (s : Nat) : ∀ (ws : List Nat) (st : SS), (∀ w ∈ ws, w < st.1.length) -> (ns s ws st).1.length = st.1.length /\
  ∀ y, gt (ns s ws st).1 y = if gt st.1 y < 0 /\ y ∈ ws then (s : Int) else gt st.1 y
 | [], st, _ => ⟨rfl, fun y => by simp [ns]⟩
 | w :: ws, st, h => by
  have hw := h w (ako ..)
  have hl := (pK w s st).1
  obtain ⟨h1, h2⟩ := yJ s ws (aU w s st) (fun x hx => by rw [hl]; exact h x (ake _ hx))
  refine ⟨h1.trans hl, fun y => ?_⟩
  show gt (ns s ws (aU w s st)).1 y = _
  rw [h2 y]
  have hy : gt (aU w s st).1 y = if gt st.1 w < 0 /\ w = y then (s : Int) else gt st.1 y := by
   unfold aU
   by_cases hn : gt st.1 w < 0
   ·rw [show decide (st.1.getD w 0 < 0) = true from ajX hn, ajZ]
    show gt (st.1.set w (s : Int)) y = _
    rw [tu hw]
    simp [hn]
   ·rw [show decide (st.1.getD w 0 < 0) = false from aj2 hn, ajY]
    simp [hn]
  rw [hy]
  by_cases e : w = y
  ·subst e
   by_cases hn : gt st.1 w < 0
   ·have : ¬ (s : Int) < 0 := by omega
    simp [hn, this]
   ·simp [hn]
  ·have e' : ¬ y = w := fun x => e x.symm
   simp [e, e']
theorem sL (s : Nat) : ∀ (ws : List Nat) (st : SS), (∀ w ∈ ws, w < st.1.length) -> s < st.2.length -> ∀ y, y ∈ (ns s ws st).2.getD s [] ↔ y ∈ st.2.getD s [] \/ (gt st.1 y < 0 /\ y ∈ ws)
 | [], st, _, _, y => by simp [ns]
 | w :: ws, st, h, hs, y => by
  have hw := h w (ako ..)
  have hl := pK w s st
  show y ∈ (ns s ws (aU w s st)).2.getD s [] ↔ _
  rw [sL s ws (aU w s st) (fun x hx => by rw [hl.1]; exact h x (ake _ hx)) (by rw [hl.2]; exact hs)]
  unfold aU
  by_cases hn : gt st.1 w < 0
  ·rw [show decide (st.1.getD w 0 < 0) = true from ajX hn, ajZ]
   show y ∈ (st.2.set s (st.2.getD s [] ++ [w])).getD s [] \/ gt (st.1.set w (s : Int)) y < 0 /\ y ∈ ws ↔ _
   rw [tu hw, show (st.2.set s (st.2.getD s [] ++ [w])).getD s [] = st.2.getD s [] ++ [w] by simp [List.getD, hs]]
   by_cases e : w = y
   ·subst e
    simp [hn]
   ·have e' : ¬ y = w := fun x => e x.symm
    simp [e, e']
  ·rw [show decide (st.1.getD w 0 < 0) = false from aj2 hn, ajY]
   constructor
   ·rintro (h1 | h1)
    ·exact .inl h1
    ·exact .inr ⟨h1.1, ake _ h1.2⟩
   ·rintro (h1 | ⟨h1, h2⟩)
    ·exact .inl h1
    ·rcases akf.1 h2 with rfl | h2
     ·exact absurd h1 hn
     ·exact .inr ⟨h1, h2⟩
theorem yK (fu s : Nat) (hs : 0 < s) : ∀ (ws : List Nat) (st : SZ), (∀ w ∈ ws, w < st.1.length) -> (mI fu s ws st).1.length = st.1.length /\
  (∀ y, gt (mI fu s ws st).1 y = if (gt st.1 y = 0 /\ 0 < y /\ y < fu) /\ y ∈ ws then (s : Int) else gt st.1 y) /\
  ∀ y, y ∈ (mI fu s ws st).2.1 ↔ y ∈ st.2.1 \/ ((gt st.1 y = 0 /\ 0 < y /\ y < fu) /\ y ∈ ws)
 | [], st, _ => ⟨rfl, fun y => by simp [mI], fun y => by simp [mI]⟩
 | w :: ws, st, h => by
  have hw := h w (ako ..)
  by_cases hn : gt st.1 w = 0 /\ 0 < w /\ w < fu
  ·have e0 := ye (s := s) hn.1 hn.2.1 hn.2.2
   obtain ⟨h1, h2, h3⟩ := yK fu s hs ws (cw fu w s st) (fun x hx => by rw [e0]; show x < (st.1.set w _).length; rw [akA]; exact h x (ake _ hx))
   have hy : ∀ y, gt (cw fu w s st).1 y = if w = y then (s : Int) else gt st.1 y := fun y => by rw [e0]; exact tu hw
   have hm : (cw fu w s st).2.1 = st.2.1 ++ [w] := by rw [e0]
   have hsz : ¬ (s : Int) = 0 := by omega
   refine ⟨h1.trans (by rw [e0]; exact akA ..), fun y => ?_, fun y => ?_⟩
   ·show gt (mI fu s ws (cw fu w s st)).1 y = _
    rw [h2 y, hy]
    by_cases e : w = y
    ·subst e; simp [hn, hsz]
    ·have e' : ¬ y = w := fun x => e x.symm
     simp [e, e']
   ·show y ∈ (mI fu s ws (cw fu w s st)).2.1 ↔ _
    rw [h3 y, hm, hy]
    by_cases e : w = y
    ·subst e; simp [hn]
    ·have e' : ¬ y = w := fun x => e x.symm
     simp [e, e']
  ·have e0 := pJ (s := s) hn
   obtain ⟨h1, h2, h3⟩ := yK fu s hs ws (cw fu w s st) (fun x hx => by rw [e0]; exact h x (ake _ hx))
   rw [e0] at h1 h2 h3
   have key : ∀ y, ((gt st.1 y = 0 /\ 0 < y /\ y < fu) /\ y ∈ w :: ws) ↔ ((gt st.1 y = 0 /\ 0 < y /\ y < fu) /\ y ∈ ws) := fun y => by
    constructor
    ·rintro ⟨a, b⟩
     rcases akf.1 b with rfl | b
     ·exact absurd a hn
     ·exact ⟨a, b⟩
    ·rintro ⟨a, b⟩; exact ⟨a, ake _ b⟩
   refine ⟨?_, fun y => ?_, fun y => ?_⟩
   ·show (mI fu s ws (cw fu w s st)).1.length = _
    rw [e0]; exact h1
   ·show gt (mI fu s ws (cw fu w s st)).1 y = _
    rw [e0, h2 y]
    simp only [key y]
   ·show y ∈ (mI fu s ws (cw fu w s st)).2.1 ↔ _
    rw [e0, h3 y, key y]
theorem SW {y : Nat} {fs gs : List Nat} : y ∈ prs fs gs ↔ ∃ f ∈ fs, ∃ g ∈ gs, y = f &&& g \/ y = f ||| g := by
 unfold prs
 simp only [alq, akf, ala, or_false]
theorem iE {y s k : Nat} {bys : List (List Nat)} : y ∈ bX s bys k ↔ ∃ i, i < k /\ ∃ f ∈ bys.getD (i + 1) [], ∃ g ∈ bys.getD (s - (i + 1)) [], y = f &&& g \/ y = f ||| g := by
 unfold bX
 simp only [alq, akU, SW]
theorem vC {y s : Nat} {bys byz : List (List Nat)} (hs : 2 <= s) (h : ∀ i y, i < s -> (y ∈ bys.getD i [] ↔ y ∈ byz.getD i [])) (hl : bys.length = s) :
  y ∈ bX s (bys ++ [[]]) (s / 2) ↔ y ∈ bX s byz (s - 1) := by
 rw [iE, iE]
 constructor
 ·rintro ⟨i, hi, f, hf, g, hg, e⟩
  rw [db (by omega)] at hf hg
  exact ⟨i, by omega, f, (h _ _ (by omega)).1 hf, g, (h _ _ (by omega)).1 hg, e⟩
 ·rintro ⟨i, hi, f, hf, g, hg, e⟩
  by_cases h2 : i < s / 2
  ·exact ⟨i, h2, f, by rw [db (by omega)]; exact (h _ _ (by omega)).2 hf, g, by rw [db (by omega)]; exact (h _ _ (by omega)).2 hg, e⟩
  ·refine ⟨s - (i + 1) - 1, by omega, g, ?_, f, ?_, ?_⟩
   ·rw [db (by omega), show s - (i + 1) - 1 + 1 = s - (i + 1) by omega]
    exact (h _ _ (by omega)).2 hg
   ·rw [db (by omega), show s - (s - (i + 1) - 1 + 1) = i + 1 by omega]
    exact (h _ _ (by omega)).2 hf
   ·rw [Nat.and_comm g f, Nat.or_comm g f]; exact e
structure AC (L s : Nat) (os : List Int) (bys : List (List Nat)) (oz : List Int) (byz : List (List Nat)) (left : Int) : Prop where
 l1 : os.length = L
 l2 : oz.length = L
 neg1 : ∀ y, gt os y < 0 -> gt os y = -1
 c0 : gt os 0 = 0
 cf : gt os (L - 1) = 0
 val : ∀ y, gt oz y = if gt os y < 0 then 0 else gt os y
 pos : ∀ y, 0 < y -> y < L - 1 -> gt os y ≠ 0
 rows : ∀ i y, i < s -> (y ∈ bys.getD i [] ↔ y ∈ byz.getD i [])
 b1 : bys.length = s
 b2 : byz.length = s
 left : left + 2 = zero oz
 good : oL L (os, bys)
 wd : sJ L byz
theorem sU {α : Type} (p q r : α -> Bool) : ∀ l : List α, (∀ y ∈ l, p y = (q y || r y)) -> (∀ y ∈ l, (q y && r y) = false) -> l.countP p = l.countP q + l.countP r
 | [], _, _ => rfl
 | a :: l, h1, h2 => by
  have ih := sU p q r l (fun y hy => h1 y (ake _ hy)) (fun y hy => h2 y (ake _ hy))
  have e1 := h1 a (ako ..)
  have e2 := h2 a (ako ..)
  rw [akP, akP, akP, ih, e1]
  cases hq : q a <;> cases hr : r a <;> simp [hq, hr] at e2 ⊢ <;> omega
theorem zp (l : List Int) : l = (List.range l.length).map (gt l) := by
 apply List.ext_getElem
 ·simp
 ·intro i h1 h2
  simp [gt, List.getD, h1]
theorem BJ (p : Int -> Bool) (l : List Int) : l.countP p = (List.range l.length).countP (fun y => p (gt l y)) := by
 conv => lhs; rw [zp l]
 rw [List.countP_map]
 rfl
theorem O5 : ∀ n, n <= 3 -> (List.range (2 ^ 2 ^ n)).countP (fun y => y == 0 || y == 2 ^ 2 ^ n - 1) = 2 := by decide +kernel
section
variable {n L s : Nat} {os oz : List Int} {bys byz : List (List Nat)} {left : Int}
theorem AC.count (hn : n <= 3) (hL : L = 2 ^ 2 ^ n) (h : AC L s os bys oz byz left) : left = neg os := by
 have e : zero oz = neg os + 2 := by
  unfold zero neg
  rw [BJ, BJ, h.l1, h.l2]
  rw [sU (fun y => decide (gt oz y = 0)) (fun y => decide (gt os y < 0)) (fun y => y == 0 || y == L - 1)]
  ·rw [hL, O5 n hn]
  ·intro y hy
   have hyl := akU.1 hy
   rw [h.val y]
   by_cases h1 : gt os y < 0
   ·simp [h1]
   ·by_cases h2 : y = 0
    ·subst h2; simp [h.c0]
    ·by_cases h3 : y = L - 1
     ·subst h3; simp [h.cf]
     ·have := h.pos y (by omega) (by omega)
      simp [h1, h2, h3, this]
  ·intro y hy
   by_cases h2 : y = 0
   ·subst h2; simp [h.c0]
   ·by_cases h3 : y = L - 1
    ·subst h3; simp [h.cf]
    ·simp [h2, h3]
 have := h.left
 omega
theorem eP (h : ∀ y, gt os y < 0 -> gt os y = -1) : os.contains (-1) = decide (0 < neg os) := by
 rw [ald]
 simp only [alk, decide_eq_true_eq]
 unfold neg
 rw [alK]
 constructor
 ·intro hm
  exact ⟨-1, hm, by simp⟩
 ·rintro ⟨x, hx, hlt⟩
  have hlt' : x < 0 := by simpa using hlt
  obtain ⟨i, hi, rfl⟩ := al0.1 hx
  have e : gt os i = os[i] := by simp [gt, List.getD, hi]
  have := h i (by rw [e]; exact hlt')
  rw [e] at this
  rw [<- this]
  exact akn hi
theorem AC.step (hn : n <= 3) (hL : L = 2 ^ 2 ^ n) (hs : 2 <= s) (h : AC L s os bys oz byz left) :
  AC L (s + 1) (ast s (os, bys ++ [[]]) (s / 2)).1 (ast s (os, bys ++ [[]]) (s / 2)).2 (za (L - 1) s byz (oz, [], left) (s - 1)).1 (byz ++ [(za (L - 1) s byz (oz, [], left) (s - 1)).2.1]) (za (L - 1) s byz (oz, [], left) (s - 1)).2.2 := by
 have hg0 := h.good.snoc
 have hk := ph hL (s := s) hg0 (s / 2) (aj8 _)
 have hz0 : gR L (oz, ([] : List Nat), left) := ⟨h.l2, by simp; rw [<- h.l2]; exact alm, by simp, h.left⟩
 have hz := zk hL (fu := L - 1) (by omega : 0 < s) h.wd hz0 (s - 1)
 have hwl : ∀ w ∈ bX s (bys ++ [[]]) (s / 2), w < L := fun w hw => by
  obtain ⟨i, hi, f, hf, g, hg, e⟩ := iE.1 hw
  have h1 := (hg0.row (i + 1)).2 f hf
  have h2 := (hg0.row (s - (i + 1))).2 g hg
  rcases e with rfl | rfl
  ·rw [hL] at h2 ⊢; exact alb _ h2
  ·rw [hL] at h1 h2 ⊢; exact akL h1 h2
 have hww := fun y => vC (y := y) hs h.rows h.b1
 have hwz : ∀ w ∈ bX s byz (s - 1), w < L := fun w hw => hwl w ((hww w).2 hw)
 have eA := yN s (os, bys ++ [[]]) (s / 2) (by omega)
 have eZ := Pf (L - 1) s byz (oz, [], left) (s - 1)
 have hb1 : (bys ++ [[]]).length = s + 1 := by rw [aj6, h.b1]; rfl
 obtain ⟨o1, o2⟩ := yJ s (bX s (bys ++ [[]]) (s / 2)) (os, bys ++ [[]]) (fun w hw => by show w < os.length; rw [h.l1]; exact hwl w hw)
 have o3 := sL s (bX s (bys ++ [[]]) (s / 2)) (os, bys ++ [[]]) (fun w hw => by show w < os.length; rw [h.l1]; exact hwl w hw) (by show s < (bys ++ [[]]).length; omega)
 obtain ⟨z1, z2, z3⟩ := yK (L - 1) s (by omega) (bX s byz (s - 1)) (oz, [], left) (fun w hw => by show w < oz.length; rw [h.l2]; exact hwz w hw)
 rw [<- eA] at o1 o2 o3
 rw [<- eZ] at z1 z2 z3
 have bg : ∀ y, (gt oz y = 0 /\ 0 < y /\ y < L - 1) ↔ gt os y < 0 := fun y => by
  rw [h.val y]
  constructor
  ·rintro ⟨a, b, c⟩
   by_cases e : gt os y < 0
   ·exact e
   ·rw [if_neg e] at a
    exact absurd a (h.pos y b c)
  ·intro e
   rw [if_pos e]
   refine ⟨rfl, ?_, ?_⟩
   ·rcases ama y with rfl | h1
    ·rw [h.c0] at e; omega
    ·exact h1
   ·rcases akg y (L - 1) with h1 | h1
    ·exact h1
    ·rcases Nat.eq_or_lt_of_le h1 with h1 | h1
     ·rw [<- h1, h.cf] at e; omega
     ·have : gt os y = 0 := by unfold gt; exact mc (by rw [h.l1]; omega)
      omega
 refine ⟨o1.trans h.l1, z1.trans h.l2, fun y hy => ?_, ?_, ?_, fun y => ?_, fun y hy1 hy2 => ?_, fun i y hi => ?_, hk.len.trans hb1, by rw [aj6, h.b2]; rfl, hz.left, hk.good, fun l hl => ?_⟩
 ·rw [o2 y] at hy ⊢
  by_cases e : gt os y < 0 /\ y ∈ bX s (bys ++ [[]]) (s / 2)
  ·rw [if_pos e] at hy; omega
  ·rw [if_neg e] at hy ⊢; exact h.neg1 y hy
 ·rw [o2, if_neg (by show ¬ (gt os 0 < 0 /\ _); rw [h.c0]; omega)]; exact h.c0
 ·rw [o2, if_neg (by show ¬ (gt os (L - 1) < 0 /\ _); rw [h.cf]; omega)]; exact h.cf
 ·rw [o2 y, z2 y]
  show (if (gt oz y = 0 /\ 0 < y /\ y < L - 1) /\ _ then (s : Int) else gt oz y) = _
  by_cases e : gt os y < 0 /\ y ∈ bX s (bys ++ [[]]) (s / 2)
  ·rw [if_pos ⟨(bg y).2 e.1, (hww y).1 e.2⟩]
   show (s : Int) = if (if gt os y < 0 /\ y ∈ _ then (s : Int) else gt os y) < 0 then 0 else if gt os y < 0 /\ y ∈ _ then (s : Int) else gt os y
   rw [if_pos e, if_neg (by omega)]
  ·rw [if_neg (fun x => e ⟨(bg y).1 x.1, (hww y).2 x.2⟩)]
   show gt oz y = if (if gt os y < 0 /\ y ∈ _ then (s : Int) else gt os y) < 0 then 0 else if gt os y < 0 /\ y ∈ _ then (s : Int) else gt os y
   rw [if_neg e]
   exact h.val y
 ·rw [o2 y]
  by_cases e : gt os y < 0 /\ y ∈ bX s (bys ++ [[]]) (s / 2)
  ·rw [if_pos e]; omega
  ·rw [if_neg e]; exact h.pos y hy1 hy2
 ·by_cases e : i < s
  ·rw [hk.other i (by omega), db (by rw [h.b1]; exact e), db (by rw [h.b2]; exact e)]
   exact h.rows i y e
  ·obtain rfl : i = s := by omega
   rw [o3 y]
   have e1 : (bys ++ [[]]).getD i [] = [] := by simp [List.getD, h.b1]
   have e2 : (byz ++ [(za (L - 1) i byz (oz, [], left) (i - 1)).2.1]).getD i [] = (za (L - 1) i byz (oz, [], left) (i - 1)).2.1 := by simp [List.getD, h.b2]
   rw [e2, z3 y]
   show y ∈ (bys ++ [[]]).getD i [] \/ _ ↔ _
   rw [e1]
   constructor
   ·rintro (a | ⟨a, b⟩)
    ·simp at a
    ·exact .inr ⟨(bg y).2 a, (hww y).1 b⟩
   ·rintro (a | ⟨a, b⟩)
    ·simp at a
    ·exact .inr ⟨(bg y).1 a, (hww y).2 b⟩
 ·rcases akC.1 hl with h1 | h1
  ·exact h.wd l h1
  ·simp only [akf, ala, or_false] at h1
   subst h1
   exact ⟨by have := hz.row; omega, hz.words⟩
theorem tS (hn : n <= 3) (hL : L = 2 ^ 2 ^ n) : ∀ (F s : Nat) (os oz : List Int) (bys byz : List (List Nat)) (left : Int), 2 <= s -> AC L s os bys oz byz left -> fJ F s (os, bys) = qz (L - 1) F s oz byz left
  | 0, _, _, _, _, _, _, _, _ => rfl
  | F + 1, s, os, oz, bys, byz, left, hs, h => by
    unfold fJ qz
    have hc := h.count hn hL
    have e : (decide (left > 0)) = os.contains (-1) := by
      rw [eP h.neg1, hc]
      by_cases h1 : 0 < neg os
      · rw [ajX (by omega), ajX h1]
      · rw [aj2 (by omega), aj2 h1]
    rw [e]
    show cond (os.contains (-1)) _ _ = _
    cases hb : os.contains (-1) with
    | true =>
      rw [ajZ, ajZ]
      exact tS hn hL F (s + 1) _ _ _ _ _ (by omega) (h.step hn hL hs)
    | false =>
      rw [ajY, ajY]
      rw [eP h.neg1] at hb
      have h0 : neg os = 0 := by have := of_decide_eq_false hb; omega
      congr 1
      rw [zp os, zp oz, h.l1, h.l2]
      apply al3
      intro y hy
      rw [h.val y, if_neg]
      intro hlt
      have : 0 < neg os := by
        unfold neg
        rw [alK]
        have hy' : y < os.length := by rw [h.l1]; exact akU.1 hy
        exact ⟨os[y], akn hy', by have e : gt os y = os[y] := by simp [gt, List.getD, hy']
                                  rw [<- e]; simpa using hlt⟩
      omega
end
inductive Rch (n : Nat) : Nat -> Nat -> Prop
 | var (i : Nat) (h : i < n) : Rch n 1 (vw n i)
 | nvar (i : Nat) (h : i < n) : Rch n 1 (vw n i ^^^ full n)
 | op (a b f g : Nat) (o : Bool) (hf : 0 < f /\ f < full n) (hg : 0 < g /\ g < full n) (h1 : Rch n a f) (h2 : Rch n b g) : Rch n (a + b) (cond o (f &&& g) (f ||| g))
def pj (w : Nat) : List (Nat × Nat) -> Nat
 | [] => 0
 | (x, k) :: l => cond (Nat.beq x w) k (pj w l)
def ent (e : Nat) : Bool × Nat × Nat := (Nat.beq (e / 65536) 1, e / 256 % 256, e % 256)
def Mr (n : Nat) (kn : List (Nat × Nat)) (e : Bool × Nat × Nat) : List (Nat × Nat) :=
 cond (decide (0 < pj e.2.1 kn) && decide (0 < pj e.2.2 kn) && decide (0 < cond e.1 (e.2.1 &&& e.2.2) (e.2.1 ||| e.2.2)) && decide (cond e.1 (e.2.1 &&& e.2.2) (e.2.1 ||| e.2.2) < full n))
  ((cond e.1 (e.2.1 &&& e.2.2) (e.2.1 ||| e.2.2), pj e.2.1 kn + pj e.2.2 kn) :: kn) kn
def Is (n : Nat) (kn : List (Nat × Nat)) : Prop := ∀ p ∈ kn, (0 < p.1 /\ p.1 < full n) /\ Rch n p.2 p.1
theorem mA {n : Nat} : ∀ {kn : List (Nat × Nat)}, Is n kn -> ∀ {w : Nat}, 0 < pj w kn -> (0 < w /\ w < full n) /\ Rch n (pj w kn) w
 | [], _, w, h => by simp [pj] at h
 | (x, k) :: l, hk, w, h => by
  unfold pj at h ⊢
  cases hb : Nat.beq x w with
  | true =>
   rw [ajZ]
   have := aj3 hb
   subst this
   exact hk (x, k) (ako ..)
  | false =>
   rw [hb, ajY] at h
   rw [ajY]
   exact mA (fun p hp => hk p (ake _ hp)) h
theorem Yt {n : Nat} {kn : List (Nat × Nat)} (h : Is n kn) (e : Bool × Nat × Nat) : Is n (Mr n kn e) := by
 unfold Mr
 cases hb : (decide (0 < pj e.2.1 kn) && decide (0 < pj e.2.2 kn) && decide (0 < cond e.1 (e.2.1 &&& e.2.2) (e.2.1 ||| e.2.2)) && decide (cond e.1 (e.2.1 &&& e.2.2) (e.2.1 ||| e.2.2) < full n)) with
 | false => exact h
 | true =>
  simp only [aj0, decide_eq_true_eq] at hb
  obtain ⟨⟨⟨h1, h2⟩, h3⟩, h4⟩ := hb
  intro p hp
  rcases akf.1 hp with rfl | hp
  ·exact ⟨⟨h3, h4⟩, Rch.op _ _ _ _ _ (mA h h1).1 (mA h h2).1 (mA h h1).2 (mA h h2).2⟩
  ·exact h p hp
theorem Mt {n : Nat} : ∀ (es : List Nat) {kn : List (Nat × Nat)}, Is n kn -> Is n (es.foldl (fun kn e => Mr n kn (ent e)) kn)
 | [], _, h => h
 | e :: es, kn, h => Mt es (Yt h (ent e))
def kn0 (n : Nat) : List (Nat × Nat) := (List.range n).flatMap fun i => [(vw n i, 1), (vw n i ^^^ full n, 1)]
theorem aaN : ∀ n, n <= 3 -> ∀ i, i < n -> (0 < vw n i /\ vw n i < full n) /\ (0 < vw n i ^^^ full n /\ vw n i ^^^ full n < full n) := by decide +kernel
theorem YG {n : Nat} (hn : n <= 3) : Is n (kn0 n) := fun p hp => by
 obtain ⟨i, hi, hp⟩ := alq.1 hp
 have hi := akU.1 hi
 have := aaN n hn i hi
 simp only [akf, ala, or_false] at hp
 rcases hp with rfl | rfl
 ·exact ⟨this.1, .var i hi⟩
 ·exact ⟨this.2, .nvar i hi⟩
def wit : Nat -> List Nat
 | 2 => [68108, 2572, 68099, 2563, 66828, 1292, 66819, 1283, 2049, 69127]
 | 3 => [109260, 43724, 109107, 43571, 109296, 43760, 109071, 43535, 87500, 21964, 87347, 21811, 87536, 22000, 87311, 21775, 118000, 52464, 117775, 52239, 78832, 13296, 78607, 13071, 109248, 43712, 109308, 43772, 109068, 43532, 109263, 43727, 109104, 43568, 109299, 43763, 109059, 43523, 109119, 43583, 87488, 21952, 87548, 22012, 87308, 21772, 87503, 21967, 87344, 21808, 87539, 22003, 87299, 21763, 87359, 21823, 52384, 118010, 52234, 117935, 52304, 118005, 52229, 117855, 13216, 78842, 13066, 78767, 13136, 78837, 13061, 78687, 61576, 127214, 61474, 127163, 61508, 127197, 61457, 127095, 3976, 69614, 3874, 69563, 3908, 69597, 3857, 69495, 34833, 34896, 34821, 34864, 34819, 126583, 126709, 126559, 126707, 126527, 8784, 8709, 113653, 113503, 40965, 40972, 40963, 129631, 129743, 129599, 17456, 17411, 122355, 122175, 20492, 20483, 128463, 128319, 49155, 130111, 109251, 43715, 109116, 43580, 87491, 21955, 87356, 21820, 117925, 52389, 117850, 52314, 78757, 13221, 78682, 13146, 127129, 61593, 127078, 61542, 69529, 3993, 69478, 3942, 34832, 34897, 34817, 34837, 34865, 34835, 35040, 34830, 126581, 126711, 126551, 126591, 126579, 126519, 8788, 8773, 8880, 8715, 113621, 113501, 40964, 41029, 40961, 40981, 40973, 40967, 129629, 129759, 129623, 129663, 129615, 129567, 2644, 2641, 110549, 110453, 17616, 17421, 4464, 4359, 49154, 49153, 49187, 49171, 49163, 49159, 130239, 130175, 130107, 130103, 130095, 130079, 3122, 3121, 118707, 118643, 34899, 34869, 126547, 126517, 8796, 8901, 113500, 113605, 32789, 32787, 32775, 125567, 43009, 130647, 130615, 130591, 2129, 2097, 2160, 110327, 35344, 126837, 126835, 126961, 8268, 8205, 129997, 129871, 708, 720, 114652, 114676, 34846, 35041, 126599, 126584, 8779, 8884, 113453, 113618, 17453, 17618, 122187, 122292, 4487, 4472, 96030, 96225, 33300, 125821]
 | _ => []
set_option maxRecDepth 100000 in
theorem Vs : ∀ n, n <= 3 -> ((List.range (2 ^ 2 ^ n)).all fun w => Nat.beq w 0 || Nat.beq w (full n) || (Nat.ble 1 (pj w ((wit n).foldl (fun kn e => Mr n kn (ent e)) (kn0 n))) && Nat.ble (pj w ((wit n).foldl (fun kn e => Mr n kn (ent e)) (kn0 n))) 12)) = true := by decide +kernel
theorem cY {n : Nat} (hn : n <= 3) {w : Nat} (h0 : 0 < w) (h1 : w < full n) : ∃ k, k <= 12 /\ Rch n k w := by
 have h := aku.1 (Vs n hn) w (akU.2 (by unfold full at h1; omega))
 simp only [akI, aj0, Nat.ble_eq] at h
 rcases h with (h | h) | h
 ·have := aj3 h; omega
 ·have := aj3 h; omega
 ·exact ⟨_, h.2, (mA (Mt (wit n) (YG hn)) (by omega : 0 < pj w _)).2⟩
def stt (n : Nat) : Nat -> SS
 | 0 => dt n n
 | m + 1 => ast (m + 2) ((stt n m).1, (stt n m).2 ++ [[]]) ((m + 2) / 2)
def zt (n : Nat) : Nat -> List Int × List (List Nat) × Int
 | 0 => ((eM n n).1, [[], (eM n n).2], ((2 ^ 2 ^ n : Nat) : Int) - 2 - 2 * (n : Int))
 | m + 1 => ((za (2 ^ 2 ^ n - 1) (m + 2) (zt n m).2.1 ((zt n m).1, [], (zt n m).2.2) (m + 1)).1, (zt n m).2.1 ++ [(za (2 ^ 2 ^ n - 1) (m + 2) (zt n m).2.1 ((zt n m).1, [], (zt n m).2.2) (m + 1)).2.1], (za (2 ^ 2 ^ n - 1) (m + 2) (zt n m).2.1 ((zt n m).1, [], (zt n m).2.2) (m + 1)).2.2)
theorem WW : ∀ n, n <= 3 -> (dt n n).2 = [[], (eM n n).2] /\ ((List.range (2 ^ 2 ^ n)).all fun y => (decide (gt (dt n n).1 y < 0) == decide (gt (dt n n).1 y = -1)) && (gt (eM n n).1 y == cond (decide (gt (dt n n).1 y < 0)) 0 (gt (dt n n).1 y)) &&
  (Nat.beq y 0 || Nat.beq y (2 ^ 2 ^ n - 1) || !(gt (dt n n).1 y == 0)) && (decide (gt (dt n n).1 y < 1) || (gt (dt n n).1 y == 1 && ((dt n n).2.getD 1 []).contains y))) = true /\ gt (dt n n).1 0 = 0 /\ gt (dt n n).1 (2 ^ 2 ^ n - 1) = 0 := by decide +kernel
theorem pr {l : List Int} {y : Nat} (h : l.length <= y) : gt l y = 0 := mc h
theorem NH {n : Nat} (hn : n <= 3) : AC (2 ^ 2 ^ n) 2 (dt n n).1 (dt n n).2 (eM n n).1 [[], (eM n n).2] (((2 ^ 2 ^ n : Nat) : Int) - 2 - 2 * (n : Int)) := by
 obtain ⟨h1, h2, h3, h4⟩ := WW n hn
 have hk := rO hn n (aj8 _)
 have hv := Au n hn n (by omega)
 have hl1 := hk.good.len
 have key := fun y (hy : y < 2 ^ 2 ^ n) => aku.1 h2 y (akU.2 hy)
 refine ⟨hl1, hv.1, fun y hy => ?_, h3, h4, fun y => ?_, fun y hy1 hy2 => ?_, fun i y hi => by rw [h1], by rw [hk.len]; rfl, rfl, yg n hn, hk.good, fun l hl => ?_⟩
 ·rcases akg y (2 ^ 2 ^ n) with h | h
  ·have := key y h
   simp only [aj0, beq_iff_eq] at this
   have e := this.1.1.1
   rw [ajX hy] at e
   exact of_decide_eq_true e.symm
  ·rw [pr (by omega)] at hy; omega
 ·rcases akg y (2 ^ 2 ^ n) with h | h
  ·have := key y h
   simp only [aj0, beq_iff_eq] at this
   have e := this.1.1.2
   rw [e]
   by_cases hy : gt (dt n n).1 y < 0
   ·rw [ajX hy, if_pos hy]; rfl
   ·rw [aj2 hy, if_neg hy]; rfl
  ·rw [pr (by rw [hv.1]; exact h), pr (by omega)]; rfl
 ·have := key y (by omega)
  simp only [aj0, akI, beq_iff_eq, akm] at this
  rcases this.1.2 with (e | e) | e
  ·have := aj3 e; omega
  ·have := aj3 e; omega
  ·intro h; rw [h] at e; simp at e
 ·simp only [akf, ala, or_false] at hl
  rcases hl with rfl | rfl
  ·simp
  ·refine ⟨?_, fun x hx => of_decide_eq_true (aku.1 hv.2.2 x hx)⟩
   rw [hv.2.1]
   obtain rfl | rfl | rfl | rfl : n = 0 \/ n = 1 \/ n = 2 \/ n = 3 := by omega
   all_goals decide
theorem xq {n : Nat} (hn : n <= 3) : ∀ m, AC (2 ^ 2 ^ n) (m + 2) (stt n m).1 (stt n m).2 (zt n m).1 (zt n m).2.1 (zt n m).2.2
 | 0 => NH hn
 | m + 1 => (xq hn m).step hn rfl (by omega)
theorem round {n : Nat} (hn : n <= 3) (m : Nat) :
  (∀ y, gt (stt n (m + 1)).1 y = if gt (stt n m).1 y < 0 /\ y ∈ bX (m + 2) ((stt n m).2 ++ [[]]) ((m + 2) / 2) then ((m + 2 : Nat) : Int) else gt (stt n m).1 y) /\
  (∀ i, i < m + 2 -> (stt n (m + 1)).2.getD i [] = (stt n m).2.getD i []) /\
  (∀ y, y ∈ (stt n (m + 1)).2.getD (m + 2) [] ↔ gt (stt n m).1 y < 0 /\ y ∈ bX (m + 2) ((stt n m).2 ++ [[]]) ((m + 2) / 2)) := by
 have h := xq hn m
 have hg0 := h.good.snoc
 have hwl : ∀ w ∈ bX (m + 2) ((stt n m).2 ++ [[]]) ((m + 2) / 2), w < 2 ^ 2 ^ n := fun w hw => by
  obtain ⟨i, hi, f, hf, g, hg, e⟩ := iE.1 hw
  have h1 := (hg0.row (i + 1)).2 f hf
  have h2 := (hg0.row (m + 2 - (i + 1))).2 g hg
  rcases e with rfl | rfl
  ·exact alb _ h2
  ·exact akL h1 h2
 have hk := ph (k := 2 ^ n) rfl (s := m + 2) hg0 ((m + 2) / 2) (aj8 _)
 have eA := yN (m + 2) ((stt n m).1, (stt n m).2 ++ [[]]) ((m + 2) / 2) (by omega)
 have hlen : ∀ w ∈ bX (m + 2) ((stt n m).2 ++ [[]]) ((m + 2) / 2), w < (stt n m).1.length := fun w hw => by rw [h.l1]; exact hwl w hw
 have o2 := (yJ (m + 2) _ ((stt n m).1, (stt n m).2 ++ [[]]) hlen).2
 have o3 := sL (m + 2) _ ((stt n m).1, (stt n m).2 ++ [[]]) hlen (by show m + 2 < ((stt n m).2 ++ [[]]).length; rw [aj6, h.b1]; simp)
 rw [<- eA] at o2 o3
 refine ⟨o2, fun i hi => ?_, fun y => ?_⟩
 ·show (ast (m + 2) ((stt n m).1, (stt n m).2 ++ [[]]) ((m + 2) / 2)).2.getD i [] = _
  rw [hk.other i (by omega)]
  exact db (by rw [h.b1]; exact hi)
 ·show y ∈ (ast (m + 2) ((stt n m).1, (stt n m).2 ++ [[]]) ((m + 2) / 2)).2.getD (m + 2) [] ↔ _
  rw [o3 y]
  have e1 : ((stt n m).2 ++ [[]]).getD (m + 2) [] = [] := by simp [List.getD, h.b1]
  show y ∈ ((stt n m).2 ++ [[]]).getD (m + 2) [] \/ _ ↔ _
  rw [e1]
  simp
theorem YH {n : Nat} (hn : n <= 3) (m : Nat) (y : Nat) : ∀ d, gt (stt n (m + d)).1 y = gt (stt n m).1 y \/ (gt (stt n m).1 y < 0 /\ (gt (stt n (m + d)).1 y < 0 \/ ((m + 2 : Nat) : Int) <= gt (stt n (m + d)).1 y))
 | 0 => .inl rfl
 | d + 1 => by
  have h := (round hn (m + d)).1 y
  have ih := YH hn m y d
  show gt (stt n (m + d + 1)).1 y = _ \/ (_ /\ (gt (stt n (m + d + 1)).1 y < 0 \/ _ <= gt (stt n (m + d + 1)).1 y))
  rw [h]
  by_cases e : gt (stt n (m + d)).1 y < 0 /\ y ∈ bX (m + d + 2) ((stt n (m + d)).2 ++ [[]]) ((m + d + 2) / 2)
  ·rw [if_pos e]
   right
   refine ⟨?_, .inr (by omega)⟩
   rcases ih with ih | ih
   ·rw [<- ih]; exact e.1
   ·exact ih.1
  ·rw [if_neg e]; exact ih
theorem zq {n : Nat} (hn : n <= 3) : ∀ m f, 1 <= gt (stt n m).1 f -> ∃ a : Nat, gt (stt n m).1 f = a /\ 1 <= a /\ a < m + 2 /\ f ∈ (stt n m).2.getD a []
 | 0, f, h => by
  have hl := (NH hn).l1
  rcases akg f (2 ^ 2 ^ n) with hf | hf
  ·have := aku.1 (WW n hn).2.1 f (akU.2 hf)
   simp only [aj0, akI, decide_eq_true_eq, beq_iff_eq] at this
   rcases this.2 with e | e
   ·exact absurd h (by show ¬ 1 <= gt (dt n n).1 f; omega)
   ·exact ⟨1, e.1, aj8 _, by omega, alk.1 e.2⟩
  ·have h' : 1 <= gt (dt n n).1 f := h
   rw [pr (by omega)] at h'; omega
 | m + 1, f, h => by
  obtain ⟨h1, h2, h3⟩ := round hn m
  rw [h1 f] at h ⊢
  by_cases e : gt (stt n m).1 f < 0 /\ f ∈ bX (m + 2) ((stt n m).2 ++ [[]]) ((m + 2) / 2)
  ·rw [if_pos e]
   exact ⟨m + 2, rfl, by omega, by omega, (h3 f).2 e⟩
  ·rw [if_neg e] at h ⊢
   obtain ⟨a, ha, ha1, ha2, hm⟩ := zq hn m f h
   exact ⟨a, ha, ha1, by omega, by rw [h2 a ha2]; exact hm⟩
theorem Hz {n : Nat} (hn : n <= 3) {m m' y : Nat} (h : m <= m') (h0 : 0 <= gt (stt n m).1 y) : gt (stt n m').1 y = gt (stt n m).1 y := by
 obtain ⟨d, rfl⟩ := Nat.exists_eq_add_of_le h
 rcases YH hn m y d with h1 | h1
 ·exact h1
 ·omega
theorem ads {n : Nat} (hn : n <= 3) {k w : Nat} (h : Rch n k w) : 1 <= k /\ ∀ m, k <= m + 1 -> 0 <= gt (stt n m).1 w := by
 have one : ∀ i, i < n -> 0 <= gt (stt n 0).1 (vw n i) /\ 0 <= gt (stt n 0).1 (vw n i ^^^ full n) := by
  obtain rfl | rfl | rfl | rfl : n = 0 \/ n = 1 \/ n = 2 \/ n = 3 := by omega
  all_goals decide +kernel
 induction h with
 | var i hi => exact ⟨aj8 _, fun m _ => by rw [Hz hn (aks m) (one i hi).1]; exact (one i hi).1⟩
 | nvar i hi => exact ⟨aj8 _, fun m _ => by rw [Hz hn (aks m) (one i hi).2]; exact (one i hi).2⟩
 | op a b f g o hf hg h1 h2 ih1 ih2 =>
  refine ⟨by omega, fun m hm => ?_⟩
  -- sizes of both parts
  have size : ∀ (c x : Nat), 1 <= c -> (0 < x /\ x < full n) -> (∀ m, c <= m + 1 -> 0 <= gt (stt n m).1 x) -> ∃ a : Nat, 1 <= a /\ a <= c /\ (∀ m, a <= m + 1 -> gt (stt n m).1 x = a) /\ ∀ m, a <= m + 1 -> x ∈ (stt n m).2.getD a [] := fun c x hc hx hk => by
   have hk1 := hk (c - 1) (by omega)
   have hne : gt (stt n (c - 1)).1 x ≠ 0 := (xq hn (c - 1)).pos x hx.1 hx.2
   obtain ⟨a, ha, ha1, ha2, _⟩ := zq hn (c - 1) x (by omega)
   have told : ∀ m, a <= m + 1 -> gt (stt n m).1 x = a := fun m hm => by
    rcases Nat.le_total m (c - 1) with hle | hle
    ·obtain ⟨d, hd⟩ := Nat.exists_eq_add_of_le hle
     have hl := YH hn m x d
     rw [<- hd, ha] at hl
     rcases hl with hl | hl
     ·exact hl.symm
     ·rcases hl.2 with h3 | h3 <;> omega
    ·rw [Hz hn hle hk1, ha]
   refine ⟨a, ha1, by omega, told, fun m hm => ?_⟩
   obtain ⟨a', ha', _, _, hin⟩ := zq hn m x (by rw [told m hm]; omega)
   rw [told m hm] at ha'
   have : a' = a := by omega
   rw [this] at hin; exact hin
  obtain ⟨a', a1, a2, ta, ra⟩ := size a f ih1.1 hf ih1.2
  obtain ⟨b', b1, b2, tb, rb⟩ := size b g ih2.1 hg ih2.2
  -- the round of the sum
  have hround : 0 <= gt (stt n (a' + b' - 2 + 1)).1 (cond o (f &&& g) (f ||| g)) := by
   obtain ⟨h3, _, _⟩ := round hn (a' + b' - 2)
   rw [h3]
   by_cases e : gt (stt n (a' + b' - 2)).1 (cond o (f &&& g) (f ||| g)) < 0 /\ (cond o (f &&& g) (f ||| g)) ∈ bX (a' + b' - 2 + 2) ((stt n (a' + b' - 2)).2 ++ [[]]) ((a' + b' - 2 + 2) / 2)
   ·rw [if_pos e]; omega
   ·rw [if_neg e]
    rcases Int.lt_or_le (gt (stt n (a' + b' - 2)).1 (cond o (f &&& g) (f ||| g))) 0 with hlt | hle
    ·refine absurd ⟨hlt, ?_⟩ e
     have hb := (xq hn (a' + b' - 2)).b1
     rw [vC (byz := (stt n (a' + b' - 2)).2) (by omega) (fun _ _ _ => Iff.rfl) hb, iE]
     refine ⟨a' - 1, by omega, f, ?_, g, ?_, by cases o <;> simp⟩
     ·rw [show a' - 1 + 1 = a' by omega]; exact ra _ (by omega)
     ·rw [show a' + b' - 2 + 2 - (a' - 1 + 1) = b' by omega]; exact rb _ (by omega)
    ·exact hle
  rw [Hz hn (by omega : a' + b' - 2 + 1 <= m) hround]
  exact hround
theorem Cj {n : Nat} : ∀ (F m : Nat), (∃ j, j < F /\ (stt n (m + j)).1.contains (-1) = false) -> ∃ j, fJ F (m + 2) (stt n m) = some (stt n (m + j)).1
 | 0, _, ⟨_, h, _⟩ => absurd h (akW _)
 | F + 1, m, ⟨j, hj, hc⟩ => by
  unfold fJ
  cases hb : (stt n m).1.contains (-1) with
  | false => exact ⟨0, rfl⟩
  | true =>
   rw [ajZ]
   cases j with
   | zero => rw [ak0, hb] at hc; cases hc
   | succ j =>
    obtain ⟨j', h⟩ := Cj F (m + 1) ⟨j, by omega, by rw [show m + 1 + j = m + (j + 1) by omega]; exact hc⟩
    exact ⟨j' + 1, by rw [show m + (j' + 1) = m + 1 + j' by omega]; exact h⟩
theorem CU {n : Nat} (hn : n <= 3) : ∃ T, qI n = some T /\ vc n = some T := by
 have hend : (stt n 12).1.contains (-1) = false := by
  have h := xq hn 12
  rw [eP h.neg1]
  refine aj2 fun hpos => ?_
  unfold neg at hpos
  rw [alK] at hpos
  obtain ⟨x, hx, hlt⟩ := hpos
  have hlt' : x < 0 := by simpa using hlt
  obtain ⟨i, hi, rfl⟩ := al0.1 hx
  have e : gt (stt n 12).1 i = (stt n 12).1[i] := by simp [gt, List.getD, hi]
  rw [<- e] at hlt'
  have hil : i < 2 ^ 2 ^ n := by rw [<- h.l1]; exact hi
  rcases ama i with rfl | h0
  ·rw [h.c0] at hlt'; omega
  ·rcases akg i (2 ^ 2 ^ n - 1) with h1 | h1
   ·obtain ⟨k, hk, hr⟩ := cY hn h0 (by unfold full; exact h1)
    have := (ads hn hr).2 12 (by omega)
    omega
   ·rw [show i = 2 ^ 2 ^ n - 1 by omega, h.cf] at hlt'; omega
 obtain ⟨j, hj⟩ := Cj (n := n) 40 0 ⟨12, by omega, by rw [akE]; exact hend⟩
 have h1 : qI n = some (stt n (0 + j)).1 := hj
 refine ⟨_, h1, ?_⟩
 rw [<- h1]
 unfold qI vc full
 exact (tS hn rfl 40 2 _ _ _ _ _ (aj8 _) (NH hn)).symm
open Go.Rv Go.RowKit
def szT (n : Nat) : List Int := (qI n).getD []
theorem WX {n : Nat} (hn : n <= 3) : qI n = some (szT n) := by
 obtain ⟨T, h1, _⟩ := CU hn
 unfold szT
 rw [h1]
 rfl
theorem ael {n : Nat} (hn : n <= 3) : vc n = some (szT n) := by
 obtain ⟨T, h1, h2⟩ := CU hn
 unfold szT
 rw [h1, h2]
 rfl
section
variable {I : World -> Prop} {P : Program} {β : Type}
def jt (_N : Nat) (a0 : Int) (k : List Int -> Option β) : Option β := gd (decide (0 <= a0)) (gd (decide (a0 <= 3)) (k (szT a0.toNat)))
def mY (_N : Nat) (a0 : Int) (k : List Int -> Option β) : Option β := gd (decide (0 <= a0)) (gd (decide (a0 <= 3)) (k (szT a0.toNat)))
def As (t : TypeId) (N : Nat) : Rv.Spec β := fun args K => match args with
 | [.v (.one (.int .i64 n))] => jt N n fun r => K (.v (.one (.sl t (.ints .i64 r))))
 | _ => none
theorem WY {g : FuncId} {fn : Func} {t : TypeId} (hf : P.funcs[g]? = some fn) (hc : ((fn.name == "runtime.NumGoroutine") || fn.body.isNone) = false)
  (h : ∀ (X : Cx I) (n : Nat), cD X -> n <= 3 -> Calls P g #[.int .i64 (n : Int)] X.w0 fun e w' => ∃ v', e = .returned v' /\ w'.ownsRow X.w0.heap.size t 1 v' (szT n).length ((szT n).map (Value.int .i64)) /\ RowKit.Below X.w0.heap.size X.w0 w') (N : Nat) :
  ao (β := β) I P g (As t N) := by
 refine ⟨rK hf hc, fun args K r hr => ?_⟩
 unfold As at hr
 split at hr
 ·rename_i n
  unfold jt at hr
  obtain ⟨h1, hr⟩ := aA hr
  obtain ⟨h2, hr⟩ := aA hr
  have h1 := of_decide_eq_true h1
  have h2 := of_decide_eq_true h2
  refine ⟨_, hr, fun X vs hX hv => ?_⟩
  rcases hv with _ | ⟨ha, hv⟩
  rcases hv with _ | _
  rename_i va
  obtain rfl : va = .int .i64 n := ha
  obtain ⟨k, rfl⟩ : ∃ k : Nat, n = k := ⟨n.toNat, by omega⟩
  exact (h X k hX (by omega)).mono fun e w' ⟨v', he, hown, hw⟩ => ⟨_, he, yV hX hw hown⟩
 ·cases hr
theorem RR {X : Cx I} (hX : cD X) {W : World} (hB : RowKit.Below X.w0.heap.size X.w0 W) : cD (X.call W (.of hB)) :=
 ⟨rfl, rfl, fun _ h => h, fun k hk => by
  obtain ⟨h1, h2⟩ := hX.frz k hk
  exact ⟨aka h1 hB.size, (hB.block k h1).trans h2⟩⟩
theorem yX {g : FuncId} {S : Rv.Spec TV} (h : ao (β := TV) I P g S) {args : List TV} {y : TV} (hr : S args some = some y) {v0 : Value} (hy : ∀ (X' : Cx I) lc v, aC X' lc (bJ [] y).1 v -> v = v0)
  {X : Cx I} (hX : cD X) {W : World} (hB : RowKit.Below X.w0.heap.size X.w0 W) {vs : List Value} (hv : aB (aC (X.call W (.of hB)) []) args vs) :
  Calls P g vs.toArray W fun e w' => e = .returned v0 /\ RowKit.Below W.heap.size W w' := by
 obtain ⟨y', hy', hc⟩ := h.2 args some y hr
 obtain rfl : y' = y := by simpa using hy'
 have hX' := RR hX hB
 refine (hc (X.call W (.of hB)) vs hX' hv).mono fun e w' ⟨v, he, X2, lc, hle, hW, hrl, _⟩ => ?_
 refine ⟨by rw [he, hy _ _ _ hrl], ?_⟩
 obtain ⟨ft, fw, _, _, _⟩ := hle
 have := hW.below
 exact ⟨this.os, this.tape, this.output, this.size, fun k hk => this.block k (hX'.old hk)⟩
end
theorem Ck {n : Nat} : ∀ (F m : Nat) (T : List Int), fJ F (m + 2) (stt n m) = some T -> ∃ j, j < F /\ T = (stt n (m + j)).1 /\ (stt n (m + j)).1.contains (-1) = false
 | 0, _, _, h => by cases h
 | F + 1, m, T, h => by
  unfold fJ at h
  cases hb : (stt n m).1.contains (-1) with
  | false =>
   rw [hb, ajY, aj1] at h
   exact ⟨0, by omega, h.symm, hb⟩
  | true =>
   rw [hb, ajZ] at h
   obtain ⟨j, h1, h2, h3⟩ := Ck F (m + 1) T h
   exact ⟨j + 1, by omega, by rw [show m + (j + 1) = m + 1 + j by omega]; exact h2, by rw [show m + (j + 1) = m + 1 + j by omega]; exact h3⟩
structure wb (n : Nat) (T : List Int) : Prop where
 len : T.length = 2 ^ 2 ^ n
 zero : gt T 0 = 0
 full : gt T (2 ^ 2 ^ n - 1) = 0
 mid : ∀ w, 0 < w -> w < 2 ^ 2 ^ n - 1 -> 1 <= gt T w
 le : ∀ w, gt T w <= 41 /\ 0 <= gt T w
theorem O0 {n : Nat} (hn : n <= 3) : wb n (szT n) := by
 have h0 : fJ 40 (0 + 2) (stt n 0) = some (szT n) := WX hn
 obtain ⟨j, h1, h2, h3⟩ := Ck 40 0 _ h0
 rw [akE] at h2 h3
 have h := xq hn j
 have hpos : ∀ w, 0 <= gt (stt n j).1 w := fun w => by
  rcases Int.lt_or_le (gt (stt n j).1 w) 0 with h4 | h4
  ·rw [eP h.neg1] at h3
   have h5 := of_decide_eq_false h3
   refine absurd ?_ h5
   unfold neg
   rw [alK]
   have hw : w < (stt n j).1.length := by
    rcases akg w (stt n j).1.length with h6 | h6
    ·exact h6
    ·rw [pr h6] at h4; omega
   have e : gt (stt n j).1 w = (stt n j).1[w] := by simp [gt, List.getD, hw]
   exact ⟨(stt n j).1[w], akn hw, by rw [<- e]; simpa using h4⟩
  ·exact h4
 rw [h2]
 refine ⟨h.l1, h.c0, h.cf, fun w a b => ?_, fun w => ⟨?_, hpos w⟩⟩
 ·have := h.pos w a b
  have := hpos w
  omega
 ·rcases Int.lt_or_le (gt (stt n j).1 w) 1 with h4 | h4
  ·omega
  ·obtain ⟨a, ha, _, hb, _⟩ := zq hn j w h4
   omega
end Go.Proofs.YtemihnclhcobnaaGreatDoor
