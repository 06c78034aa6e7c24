/- Plain laws of the texts. -/
import Derived.Test.YtemihnclhcobnaaGreatDoorT0
import Derived.Test.YtemihnclhcobnaaGreatDoorRvNum
import Derived.Test.YtemihnclhcobnaaGreatDoorSizT
import Derived.Lib.Join
import Derived.Lib.IndexBytes
namespace Go.Proofs.YtemihnclhcobnaaGreatDoor
open Go.Rv

variable {β : Type}
end Go.Proofs.YtemihnclhcobnaaGreatDoor
namespace Go.Proofs.YtemihnclhcobnaaGreatDoor
open Go.Rv
variable {β : Type}

end Go.Proofs.YtemihnclhcobnaaGreatDoor
namespace Go.Proofs.YtemihnclhcobnaaGreatDoor
open Go.Rv
set_option linter.unusedVariables false
variable {β : Type}
def aZ (g : Nat → Bool) : Nat → Nat
 | 0 => 0
 | i + 1 => aZ g i ||| (if g i then 2 ^ i else 0)
theorem dO (g : Nat → Bool) : ∀ i, aZ g i < 2 ^ i
 | 0 => by simp [aZ]
 | i + 1 => by
  have := dO g i
  unfold aZ
  have h2 : 2 ^ (i + 1) = 2 ^ i + 2 ^ i := by rw [aaT]; omega
  refine ZM (by omega) ?_
  split
  ·have := Zn i; omega
  ·exact Zn _
theorem sD {g h : Nat → Bool} : ∀ {n : Nat}, (∀ i, i < n → g i = h i) → aZ g n = aZ h n
 | 0, _ => rfl
 | n + 1, e => by
  unfold aZ
  rw [sD (n := n) fun i hi => e i (by omega), e n (by omega)]

theorem oF {n : Nat} (h : n ≤ 62) : 2 ^ n < 9223372036854775808 := Z8 (YE (by decide) h) (by decide)
theorem bZ {n : Nat} (h : n ≤ 5) : 2 ^ n ≤ 32 := Zd (YE (by decide) h) (by decide)

theorem aO (n : Nat) (h : n ≤ 62) : bb .i64 1 (n : Int) = ((2 ^ n : Nat) : Int) := by
 have := Ed 1 n (by omega) (by rw [aaK]; exact oF h)
 rw [aaK] at this
 exact this

theorem rc (N : Nat) (h : Int → (Bool → Option β) → Option β) (g : Nat → Bool) (m : Nat) (hm : m ≤ 32) (hh : ∀ (x : Nat) k, x < m → h (x : Int) k = k (g x)) (k0 : Int → Int → Int → Int → Option β) (a b n : Int) :
  ∀ (F i : Nat), m - i < F → i ≤ m → mV N h F (m : Int) (i : Int) a b n (aZ g i : Int) k0 = k0 a b n (aZ g m : Int) := by
 intro F
 induction F with
 | zero => intro i hF; omega
 | succ F ih =>
  intro i hF hi
  simp only [mV, WT, K9]
  by_cases hlt : i < m
  ·rw [Yx (by omega : (i : Int) < (m : Int))]
   simp only [YC, hh i _ hlt]
   have h1 := ih (i + 1) (by omega) (by omega)
   rw [aB i (by omega)]
   have hw : aZ g i < 2 ^ 63 := YJ (dO g i) (YE (by decide) (by omega))
   cases hg : g i with
   | true =>
    have e : aZ g (i + 1) = aZ g i ||| 2 ^ i := by simp [aZ, hg]
    rw [e] at h1
    simp only [YC, ab (Yx (by omega : 0 ≤ (i : Int)))]
    rw [aO i (by omega), bOr _ _ hw (ZJ (by decide) (by omega))]
    exact h1
   | false =>
    have e : aZ g (i + 1) = aZ g i := by simp [aZ, hg]
    rw [e] at h1
    exact h1
  ·have : i = m := by omega
   subst this
   rw [YD (by omega : ¬ (i : Int) < (i : Int))]
   rfl

theorem ez (N : Nat) (hN : 64 < N) (n : Nat) (hn : n ≤ 5) (h : Int → (Bool → Option β) → Option β) (g : Nat → Bool) (hh : ∀ (x : Nat) k, x < 2 ^ n → h (x : Int) k = k (g x)) (k : Int → Int → Option β) :
  pH N (n : Int) h k = k n (aZ g (2 ^ n) : Int) := by
 unfold pH Lj
 rw [ab (Yx (by omega)), aO n (by omega)]
 have := bZ hn
 exact rc N h g (2 ^ n) this hh (fun _ _ e2 e3 => k e2 e3) 0 0 n N 0 (by omega) (YV _)

def ys (x i b : Nat) : Nat := x - (x &&& 2 ^ i) + b * 2 ^ i
theorem fT (w y : Nat) (hw : w < 9223372036854775808) : bits .and .i64 (dr .i64 (w : Int) (y : Int)) 1 = ((if w.testBit y then 1 else 0 : Nat) : Int) := by
 rw [Ej w y hw]
 have h1 : w / 2 ^ y < 2 ^ 63 := Z8 (Nat.div_le_self _ _) hw
 have := bAnd (w / 2 ^ y) 1 h1 (by decide)
 rw [show ((1 : Nat) : Int) = 1 from rfl] at this
 rw [this, Nat.and_one_is_mod]
 congr 1
 rw [Nat.testBit, Nat.shiftRight_eq_div_pow, Nat.and_comm, Nat.and_one_is_mod]
 have := Nat.mod_two_eq_zero_or_one (w / 2 ^ y)
 rcases this with h | h <;> simp [h]

def isT (a0 a1 : Int) : Bool := decide (0 ≤ a0) && decide (a0 ≤ 5) && decide (0 ≤ a1) && decide (a1 < 2 ^ 2 ^ a0.toNat)

theorem pN {a0 a1 : Int} (h : isT a0 a1 = true) : ∃ n w : Nat, a0 = n ∧ a1 = w ∧ n ≤ 5 ∧ w < 2 ^ 2 ^ n ∧ w < 4294967296 := by
 simp only [isT, Yz, decide_eq_true_eq] at h
 obtain ⟨⟨⟨h1, h2⟩, h3⟩, h4⟩ := h
 obtain ⟨n, rfl⟩ := ZS h1
 obtain ⟨w, rfl⟩ := ZS h3
 simp only [Zb] at h4
 have h5 : w < 2 ^ 2 ^ n := by exact_mod_cast h4
 have h6 : 2 ^ 2 ^ n ≤ 2 ^ 32 := YE (by decide) (bZ (by omega))
 exact ⟨n, w, rfl, rfl, by omega, h5, by omega⟩

theorem Ee : ∀ n : Nat, n ≤ 5 → bb .u64 1 (n : Int) = ((2 ^ n : Nat) : Int) := by decide +kernel

theorem bm (N : Nat) (a0 a1 : Int) (k : Bool → Option β) : du N a0 a1 k = k (isT a0 a1) := by
 unfold du T7 mW Qb
 by_cases h0 : 0 ≤ a0
 ·rw [Yx (by omega : a0 ≥ 0)]
  simp only [YC]
  by_cases h5 : a0 ≤ 5
  ·rw [Yx h5]
   obtain ⟨n, rfl⟩ := ZS h0
   have hn : n ≤ 5 := by omega
   have hs := bZ hn
   have hp := oF (n := 2 ^ n) (by omega)
   have hpos := Zn (2 ^ n)
   simp only [YC]
   rw [ab rfl, Ee n hn, ab (Yx (Za _)), aO (2 ^ n) (by omega), bW (by omega) (by omega)]
   have e : isT (n : Int) a1 = (decide (0 ≤ a1) && decide (a1 < ((2 ^ 2 ^ n : Nat) : Int))) := by
    simp only [isT, Zb, Yx (by omega : 0 ≤ (n : Int)), Yx (by omega : (n : Int) ≤ 5), YI]
    push_cast
    rfl
   rw [e]
   by_cases h1 : 0 ≤ a1
   ·rw [Yx (by omega : a1 ≥ 0)]
    simp only [YC, YI]
    congr 1
    exact decide_eq_decide.2 (by omega)
   ·rw [YD (by omega : ¬ a1 ≥ 0)]; rfl
  ·rw [YD h5]
   simp [isT, h5]
 ·rw [YD (by omega : ¬ a0 ≥ 0)]
  simp [isT, h0]

theorem bH (N : Nat) (a0 a1 : Int) (h : a1 < 9223372036854775808) (k : Bool → Option β) : fO N a0 a1 k = k (isT a0 a1) := by
 unfold fO KS zj3 zb3 db CJ
 by_cases h0 : 0 ≤ a0
 ·rw [Yx (by omega : a0 ≥ 0)]
  simp only [YC]
  by_cases h5 : a0 ≤ 5
  ·rw [Yx h5]
   obtain ⟨n, rfl⟩ := ZS h0
   have hn : n ≤ 5 := by omega
   have hs := bZ hn
   have hpos := Zn (2 ^ n)
   simp only [YC]
   rw [ab rfl]
   have e : isT (n : Int) a1 = (decide (0 ≤ a1) && decide (a1 < ((2 ^ 2 ^ n : Nat) : Int))) := by
    simp only [isT, Zb, Yx (by omega : 0 ≤ (n : Int)), Yx (by omega : (n : Int) ≤ 5), YI]
    push_cast
    rfl
   rw [e]
   by_cases h1 : 0 ≤ a1
   ·obtain ⟨w, rfl⟩ := ZS h1
    rw [Yx (by omega : (w : Int) ≥ 0), aO n (by omega)]
    simp only [YC, YI]
    rw [ab (Yx (Za _)), Ej w (2 ^ n) (by omega)]
    congr 1
    have : w / 2 ^ 2 ^ n = 0 ↔ w < 2 ^ 2 ^ n := by
     rw [Nat.div_eq_zero_iff]
     omega
    by_cases hw : w < 2 ^ 2 ^ n
    ·rw [this.2 hw, Yx (by omega)]; rfl
    ·rw [YD (by omega)]
     have : ¬ w / 2 ^ 2 ^ n = 0 := fun h => hw (this.1 h)
     simp only [beq_eq_false_iff_ne, ne_eq]
     omega
   ·rw [YD (by omega : ¬ a1 ≥ 0)]; rfl
  ·rw [YD h5]
   simp [isT, h5]
 ·rw [YD (by omega : ¬ a0 ≥ 0)]
  simp [isT, h0]
end Go.Proofs.YtemihnclhcobnaaGreatDoor
namespace Go.Proofs.YtemihnclhcobnaaGreatDoor
open Go.Rv
set_option linter.unusedVariables false
variable {β : Type}
theorem d8 (g : Nat → Bool) : ∀ (n x : Nat), (aZ g n).testBit x = (decide (x < n) && g x)
 | 0, x => by simp [aZ]
 | n + 1, x => by
  unfold aZ
  rw [aat, d8 g n x]
  by_cases hx : x = n
  ·subst hx
   cases hg : g x <;> simp [Nat.testBit_two_pow_self]
  ·have h1 : (if g n then 2 ^ n else 0 : Nat).testBit x = false := by
    split
    ·exact Nat.testBit_two_pow_of_ne (Ne.symm hx)
    ·exact Zq _
   rw [h1, aaj]
   congr 1
   exact decide_eq_decide.2 (by omega)

theorem pr (g h : Nat → Bool) (n : Nat) : aZ g n = aZ h n ↔ ∀ x, x < n → g x = h x := by
 refine ⟨fun e x hx => ?_, fun e => sD e⟩
 have := congrArg (fun t => t.testBit x) e
 simpa [d8, hx] using this

theorem G7 (w n : Nat) (h : w < 2 ^ n) : aZ w.testBit n = w := by
 apply Zp
 intro x
 rw [d8]
 by_cases hx : x < n
 ·simp [hx]
 ·have : w.testBit x = false := aas (YJ h (YE (by decide) (by omega)))
  simp [hx, this]

def ins (x i b : Nat) : Nat := (x / 2 ^ i) * 2 ^ (i + 1) ||| b * 2 ^ i ||| (x &&& (2 ^ i - 1))
def del (x i : Nat) : Nat := (x / 2 ^ (i + 1)) * 2 ^ i ||| (x &&& (2 ^ i - 1))
theorem M0 : ∀ n, n ≤ 5 → ∀ i, i < n → ∀ x, x < 2 ^ n → del x i < 2 ^ (n - 1) ∧ ins (del x i) i (x / 2 ^ i % 2) = x ∧ ∀ b, b < 2 → ys x i b = ins (del x i) i b := by decide +kernel
theorem Nc : ∀ n, n ≤ 5 → ∀ i, i < n → ∀ x, x < 2 ^ (n - 1) → ins x i 0 < 2 ^ n ∧ ins x i 1 < 2 ^ n := by decide +kernel
theorem Si : ∀ n, n ≤ 5 → ∀ i, i < n → ∀ x, x < 2 ^ (n - 1) → ys (ins x i 0) i 0 = ins x i 0 ∧ ys (ins x i 0) i 1 = ins x i 1 ∧ ys (ins x i 1) i 0 = ins x i 0 ∧ ys (ins x i 1) i 1 = ins x i 1 := by decide +kernel
theorem ww (n : Nat) (hn : n ≤ 5) (i : Nat) (hi : i < n) (x : Nat) (hx : x < 2 ^ (n - 1)) (b : Nat) (hb : b < 2) : ins x i b < 2 ^ n ∧ ∀ c, c < 2 → ys (ins x i c) i b = ins x i b := by
  obtain ⟨h1, h2⟩ := Nc n hn i hi x hx
  obtain ⟨h3, h4, h5, h6⟩ := Si n hn i hi x hx
  have hb' : b = 0 ∨ b = 1 := by omega
  rcases hb' with rfl | rfl
  · exact ⟨h1, fun c hc => by have hc' : c = 0 ∨ c = 1 := by omega
                              rcases hc' with rfl | rfl <;> assumption⟩
  · exact ⟨h2, fun c hc => by have hc' : c = 0 ∨ c = 1 := by omega
                              rcases hc' with rfl | rfl <;> assumption⟩

def dep (w n i : Nat) : Bool := aZ (fun x => w.testBit (ins x i 0)) (2 ^ (n - 1)) != aZ (fun x => w.testBit (ins x i 1)) (2 ^ (n - 1))

theorem BT (w n i b : Nat) (hn : n ≤ 5) (hi : i < n) (hb : b < 2) (hw : w < 2 ^ 2 ^ n) : (aZ (fun x => w.testBit (ys x i b)) (2 ^ n) == w) = !dep w n i := by
 have key : aZ (fun x => w.testBit (ys x i b)) (2 ^ n) = w ↔ aZ (fun x => w.testBit (ins x i 0)) (2 ^ (n - 1)) = aZ (fun x => w.testBit (ins x i 1)) (2 ^ (n - 1)) := by
  conv => lhs; rhs; rw [← G7 w (2 ^ n) hw]
  rw [pr, pr]
  constructor
  ·intro h x hx
   obtain ⟨a1, a2⟩ := ww n hn i hi x hx 0 (by omega)
   obtain ⟨b1, b2⟩ := ww n hn i hi x hx 1 (by omega)
   have e0 := h _ a1
   have e1 := h _ b1
   have c0 := (ww n hn i hi x hx b hb).2 0 (by omega)
   have c1 := (ww n hn i hi x hx b hb).2 1 (by omega)
   rw [c0] at e0
   rw [c1] at e1
   rw [← e0, ← e1]
  ·intro h x hx
   obtain ⟨h1, h2, h3⟩ := M0 n hn i hi x hx
   have e := h _ h1
   rw [h3 b hb]
   conv => rhs; rw [← h2]
   have hc : x / 2 ^ i % 2 = 0 ∨ x / 2 ^ i % 2 = 1 := by omega
   have hb' : b = 0 ∨ b = 1 := by omega
   rcases hc with hc | hc <;> rcases hb' with rfl | rfl <;> rw [hc] <;> simp only [e]
 unfold dep
 by_cases h : aZ (fun x => w.testBit (ys x i b)) (2 ^ n) = w
 ·rw [beq_iff_eq.2 h]
  simp [key.1 h]
 ·rw [beq_eq_false_iff_ne.2 h]
  rw [aa3.2 fun e => h (key.2 e)]
  rfl

def vars (w n m : Nat) : List Int := ((List.range m).filter fun i => dep w n i).map Int.ofNat
end Go.Proofs.YtemihnclhcobnaaGreatDoor
namespace Go.Proofs.YtemihnclhcobnaaGreatDoor
open Go.Rv
set_option linter.unusedVariables false
variable {β : Type}
theorem WZ (w n i b : Nat) (hn : n ≤ 5) (hi : i < n) (hb : b < 2) (hw : w < 2 ^ 2 ^ n) : (((w ^^^ aZ (fun x => w.testBit (ys x i b)) (2 ^ n) : Nat) : Int) != 0) = dep w n i := by
 have h := BT w n i b hn hi hb hw
 cases hd : dep w n i with
 | true =>
  rw [hd] at h
  have h1 : ¬ aZ (fun x => w.testBit (ys x i b)) (2 ^ n) = w := by simpa using h
  rw [aa3]
  intro e
  have : w ^^^ aZ (fun x => w.testBit (ys x i b)) (2 ^ n) = 0 := by exact_mod_cast e
  refine h1 (Zp fun j => ?_)
  have := congrArg (fun t => t.testBit j) this
  simp only [aaY, Zq] at this
  revert this
  cases w.testBit j <;> cases (aZ (fun x => w.testBit (ys x i b)) (2 ^ n)).testBit j <;> simp
 | false =>
  rw [hd] at h
  have h1 : aZ (fun x => w.testBit (ys x i b)) (2 ^ n) = w := by simpa using h
  rw [h1, Nat.xor_self]
  rfl
end Go.Proofs.YtemihnclhcobnaaGreatDoor
namespace Go.Proofs.YtemihnclhcobnaaGreatDoor
open Go.Rv
set_option linter.unusedVariables false
variable {β : Type}
end Go.Proofs.YtemihnclhcobnaaGreatDoor
namespace Go.Proofs.YtemihnclhcobnaaGreatDoor
open Go.Rv
set_option linter.unusedVariables false
variable {β : Type}
def WE (w n x i b : Nat) : Bool := (w ^^^ aZ (fun x => w.testBit (ys x i b)) (2 ^ n)).testBit x
def QZ (c : Bool) (l : List Int) (v : Int) : List Int := if c then l ++ [v] else l
def Yh (w n x : Nat) : Nat → List Int
 | 0 => []
 | i + 1 => QZ (WE w n x i 1) (QZ (WE w n x i 0) (Yh w n x i) ((2 * i : Nat) : Int)) ((2 * i + 1 : Nat) : Int)
end Go.Proofs.YtemihnclhcobnaaGreatDoor
namespace Go.Proofs.YtemihnclhcobnaaGreatDoor
open Go.Rv
set_option linter.unusedVariables false
variable {β : Type}
theorem eC (N : Nat) (a b c : Int) (k : Bool → Option β) : mW N a b c k = k (decide (b ≤ a) && decide (a ≤ c)) := by
 unfold mW Qb
 by_cases h : b ≤ a
 ·rw [Yx (by omega : a ≥ b)]; rfl
 ·rw [YD (by omega : ¬ a ≥ b)]; rfl
theorem Ao {n w : Nat} (hn : n ≤ 5) (hw : w < 2 ^ 2 ^ n) : w < 4294967296 := YJ hw (YE (by decide) (bZ hn) : 2 ^ 2 ^ n ≤ 2 ^ 32)

def ee (s : Nat) (l : List Int) : Nat := l.foldl (fun s x => s ||| 2 ^ x.toNat) s

end Go.Proofs.YtemihnclhcobnaaGreatDoor
namespace Go.Proofs.YtemihnclhcobnaaGreatDoor
open Go.Rv
set_option linter.unusedVariables false
variable {β : Type}
def pc : Nat → Nat → Nat
 | 0, _ => 0
 | f + 1, w => w % 2 + pc f (w / 2)
def S0 (w : Nat) : Nat := pc 32 w
def q1 (c : Nat) : Nat := (c / 2 &&& 85) + (c &&& 85)
def q2 (c : Nat) : Nat := (c / 4 &&& 51) + (c &&& 51)
def q3 (c : Nat) : Nat := (c / 16 + c) &&& 15
def g1 (a : Int) : Int := P6 (bits .and .u64 (dr .u64 a 1) 6148914691236517205 + bits .and .u64 a 6148914691236517205)
def g2 (a : Int) : Int := P6 (bits .and .u64 (dr .u64 a 2) 3689348814741910323 + bits .and .u64 a 3689348814741910323)
def g3 (a : Int) : Int := bits .and .u64 (P6 (dr .u64 a 4 + a)) 1085102592571150095
def g4 (a : Int) : Int := P6 (a + dr .u64 a 8)
end Go.Proofs.YtemihnclhcobnaaGreatDoor
namespace Go.Proofs.YtemihnclhcobnaaGreatDoor
open Go.Rv
set_option linter.unusedVariables false
variable {β : Type}
def cnt (g : Nat → Bool) : Nat → Nat
 | 0 => 0
 | m + 1 => cnt g m + (if g m then 1 else 0)
theorem ID (g : Nat → Bool) : ∀ m, cnt g m ≤ m
 | 0 => YG _
 | m + 1 => by have := ID g m; simp only [cnt]; split <;> omega
def Xz (w i x : Nat) : Bool := w.testBit x != w.testBit (x ^^^ 2 ^ i)
end Go.Proofs.YtemihnclhcobnaaGreatDoor
namespace Go.Proofs.YtemihnclhcobnaaGreatDoor
open Go.Rv
set_option linter.unusedVariables false
set_option maxRecDepth 100000
variable {β : Type}
def Yu (w : Nat) (l : List Int) : Nat := l.foldl (fun w x => w ^^^ 2 ^ x.toNat) w
end Go.Proofs.YtemihnclhcobnaaGreatDoor
namespace Go.Proofs.YtemihnclhcobnaaGreatDoor
open Go.Rv
set_option linter.unusedVariables false
variable {β : Type}
theorem cc (N n : Nat) (hn : n ≤ 5) (k : Int → Option β) : oW N (n : Int) k = k ((2 ^ 2 ^ n - 1 : Nat) : Int) := by
 have hs := bZ hn
 have hp : 2 ^ 2 ^ n < 9223372036854775808 := oF (by omega)
 have h1 := Zn (2 ^ n)
 unfold oW Ut
 rw [Ee n hn, aO (2 ^ n) (by omega), Yx (by omega : (0 : Int) ≤ (n : Int)), Yx (Za (2 ^ n)), ab rfl, ab rfl, bW (by omega) (by omega)]
 congr 1
 omega

def cU (a0 a1 m : Int) : Bool := isT a0 a1 && decide (a0 ≤ m)
theorem pE (N : Nat) (a0 a1 m : Int) (h1 : a1 < 9223372036854775808) (k : Bool → Option β) : el N a0 a1 m k = k (cU a0 a1 m) := by
 unfold el sR cU
 rw [bH N a0 a1 h1]
 cases isT a0 a1 <;> rfl
end Go.Proofs.YtemihnclhcobnaaGreatDoor
namespace Go.Proofs.YtemihnclhcobnaaGreatDoor
open Go.Rv
set_option linter.unusedVariables false
variable {β : Type}
end Go.Proofs.YtemihnclhcobnaaGreatDoor
namespace Go.Proofs.YtemihnclhcobnaaGreatDoor
open Go.Rv
variable {β : Type}
def B (l : List UInt8) : ByteArray := ⟨l.toArray⟩
theorem Hw (s : ByteArray) : B s.data.toList = s := by cases s; simp [B]
theorem be (l : List UInt8) : (B l).size = l.length := by simp [B, ByteArray.size]
theorem UL {a b : ByteArray} (h : a.data.toList = b.data.toList) : a = b := by rw [← Hw a, ← Hw b, h]
theorem eM (l : List UInt8) : (B l).toList = l := Go.ByteArray.toList_mk l
theorem bX (l m : List UInt8) : B l ++ B m = B (l ++ m) := by
 apply UL
 rw [ByteArray.toList_data_append]
 simp [B]
theorem tQ : ByteArray.empty = B [] := rfl
theorem Qy (n : Int) : aj (([] : List Int) ++ [n]) = B [UInt8.ofNat n.toNat] := by
 simp [aj, B]
theorem et (l : List Int) : aj l = B (l.map fun n => UInt8.ofNat n.toNat) := by simp [aj, B]
end Go.Proofs.YtemihnclhcobnaaGreatDoor
namespace Go.Proofs.YtemihnclhcobnaaGreatDoor
open Go.Rv
variable {β : Type}
def lf (n : Nat) : Bool := (decide (97 ≤ n) && decide (n < 102)) || (n == 48 || n == 49)
def bn (n : Nat) : Bool := n == 38 || (n == 124 || n == 94)
def tx : Tr → List UInt8
 | .nil => []
 | .node a _ l r => UInt8.ofNat a.toNat :: (tx l ++ tx r)
def wf : Tr → Prop
 | .nil => False
 | .node a b l r => b = 0 ∧ ∃ n : Nat, a = n ∧ n < 256 ∧ ((lf n = true ∧ l = .nil ∧ r = .nil) ∨ (n = 33 ∧ wf l ∧ r = .nil) ∨ (bn n = true ∧ wf l ∧ wf r))

theorem iO (n m : Nat) : ((n : Int) == (m : Int)) = (n == m) := by
 by_cases h : n = m
 ·subst h; simp
 ·rw [beq_eq_false_iff_ne.2 h, beq_eq_false_iff_ne.2 (by omega)]
end Go.Proofs.YtemihnclhcobnaaGreatDoor
namespace Go.Proofs.YtemihnclhcobnaaGreatDoor
open Go.Rv
variable {β : Type}
end Go.Proofs.YtemihnclhcobnaaGreatDoor
namespace Go.Proofs.YtemihnclhcobnaaGreatDoor
open Go.Rv
variable {β : Type}
theorem bc (g : Nat → Nat → Option β) (m : Nat) (r : Option β) (hs : ∀ F i, i < m → g (F + 1) i = g F (i + 1)) (he : ∀ F, g (F + 1) m = r) :
  ∀ (F i : Nat), i ≤ m → m - i < F → g F i = r := by
 intro F
 induction F with
 | zero => intro i _ h; omega
 | succ F ih =>
  intro i hi hF
  rcases YM i m with h | h
  ·rw [hs F i h]; exact ih (i + 1) h (by omega)
  ·have : i = m := by omega
   subst this; exact he F

def sg (m : Nat) : Int := if m % 2 = 1 then -1 else 1
def bw (w x : Nat) : Nat := if w.testBit x then 1 else 0
theorem Q2 (w x : Nat) : bw w x ≤ 1 := by unfold bw; split <;> omega

def tm (w u x : Nat) : Int := sg (bw w x) * sg (S0 (u &&& x))
theorem tt {n w : Nat} (hn : n ≤ 5) (hw : w < 2 ^ 2 ^ n) : isT (n : Int) (w : Int) = true := by
 have h4 : ((w : Nat) : Int) < 2 ^ 2 ^ n := by exact_mod_cast hw
 simp only [isT, Yz, decide_eq_true_eq, Zb]
 exact ⟨⟨⟨by omega, by omega⟩, by omega⟩, h4⟩
theorem pX {n w : Nat} (hn : n ≤ 5) (hw : w < 2 ^ 2 ^ n) : w < 4294967296 :=
 YJ hw (Zd (YE (by decide) (bZ hn)) (by decide))

theorem KG {α : Type} (p : List α) (y z : α) (r : List α) : wr (p ++ y :: r) (p.length : Int) z = p ++ z :: r := by
 simp [wr]

theorem cP (N n : Nat) (w : Int) (hn : n ≤ 5) (k : Int → Option β) : db N (n : Int) w k = k ((2 ^ n : Nat) : Int) := by
 unfold db CJ
 rw [ab (Yx (by omega)), aO n (by omega)]
theorem cK (N w x : Nat) (n : Int) (hw : w < 4294967296) (k : Int → Option β) : eD N n (w : Int) (x : Int) k = k (bw w x : Int) := by
 unfold eD KW
 rw [ab (Yx (by omega)), fT w x (by omega)]
 rfl

def en (l z : List Int) : Nat → List Int
 | 0 => z
 | i + 1 => wr (en l z i) (S0 i : Int) (w64 (rd 0 (en l z i) (S0 i : Int) + w64 (rd 0 l (i : Int) * rd 0 l (i : Int))))
end Go.Proofs.YtemihnclhcobnaaGreatDoor
namespace Go.Proofs.YtemihnclhcobnaaGreatDoor
open Go.Rv
variable {β : Type}
def mu (n : Int) : Prop := -9223372036854775808 ≤ n ∧ n ≤ 9223372036854775807
def dgs (m : Nat) : List UInt8 := if m = 0 then [] else Lib.decDigits m
theorem qB (m : Nat) (h : 0 < m) : dgs m = dgs (m / 10) ++ [UInt8.ofNat (48 + m % 10)] := by
 unfold dgs
 rw [if_neg (by omega)]
 by_cases h1 : m < 10
 ·rw [Lib.decDigits, dif_pos h1, if_pos (by omega), aah h1]
  rfl
 ·rw [if_neg (by omega), Lib.decDigits, dif_neg h1]
theorem Dz : ∀ (d m : Nat), m < 10 ^ d → (dgs m).length ≤ d := by
  intro d
  induction d with
  | zero => intro m h; have : m = 0 := by simpa using h
            subst this; simp [dgs]
  | succ d ih =>
    intro m h
    by_cases h0 : m = 0
    · subst h0; simp [dgs]
    · rw [qB m (by omega)]
      have := ih (m / 10) (by rw [aaT] at h; omega)
      simp
      exact this

def sgn (s : Bool) (m : Nat) : Int := cond s (-(m : Int)) m
theorem N9 (s : Bool) (m : Nat) : tA (sgn s m) 10 = sgn s (m % 10) := by
 cases s with
 | false => rfl
 | true =>
  show (-(m : Int)).tmod 10 = -((m % 10 : Nat) : Int)
  rw [Int.neg_tmod]
  rfl
theorem N8 (s : Bool) (m : Nat) (h : m ≤ 9223372036854775808) : JV .i64 (sgn s m) 10 = sgn s (m / 10) := by
 show w64 ((sgn s m).tdiv 10) = _
 have e : (sgn s m).tdiv 10 = sgn s (m / 10) := by
  cases s with
  | false => rfl
  | true =>
   show (-(m : Int)).tdiv 10 = -((m / 10 : Nat) : Int)
   rw [Int.neg_tdiv]
   rfl
 rw [e]
 cases s <;> simp only [sgn, YC, YB] <;> rw [bW] <;> omega

theorem jO (n : Nat) (h : n < 256) : w8 (n : Int) = n := by
 have := IntKind.wrap_u8 (n : Int)
 show IntKind.wrap .u8 (n : Int) = n
 rw [this]
 omega

theorem yL (N : Nat) (neg : Bool) (k0 : ByteArray → Bool → Option β) : ∀ (d F m : Nat) (s : Bool) (out : List UInt8), m < 10 ^ d → d < F → out.length + d ≤ 1000 → m ≤ 9223372036854775808 →
  tP N F (sgn s m) (B out) neg k0 = k0 (B (dgs m ++ out)) neg := by
 intro d
 induction d with
 | zero =>
  intro F m s out h hF _ _
  obtain ⟨F, rfl⟩ : ∃ G, F = G + 1 := ⟨F - 1, by omega⟩
  have : m = 0 := by simpa using h
  subst this
  cases s <;> rfl
 | succ d ih =>
  intro F m s out h hF ho hm
  obtain ⟨F, rfl⟩ : ∃ G, F = G + 1 := ⟨F - 1, by omega⟩
  by_cases h0 : m = 0
  ·subst h0; cases s <;> rfl
  ·simp only [tP, WY, Ur]
   have hne : (sgn s m != 0) = true := by
    rw [aa3]
    cases s <;> simp only [sgn, YC, YB] <;> omega
   rw [hne, YC, N9, N8 s m hm]
   have hd : w8 (w64 (48 + ((m % 10 : Nat) : Int))) = ((48 + m % 10 : Nat) : Int) := by
    rw [bW (by omega) (by omega), show (48 : Int) + ((m % 10 : Nat) : Int) = ((48 + m % 10 : Nat) : Int) by omega, jO _ (by omega)]
   have goal : ∀ x : Int, w8 (w64 (48 + x)) = ((48 + m % 10 : Nat) : Int) → gd (decide ((aj (([] : List Int) ++ [w8 (w64 (48 + x))])).size + (B out).size ≤ 9223372036854775807)) (tP N F (sgn s (m / 10)) (aj (([] : List Int) ++ [w8 (w64 (48 + x))]) ++ B out) neg k0) = k0 (B (dgs m ++ out)) neg := by
    intro x hx
    rw [hx, Qy, be, be, ab (Yx (by simp; omega)), bX, Zb, ih F (m / 10) s _ (by rw [aaT] at h; omega) (by omega) (by simp; omega) (by omega), qB m (by omega)]
    simp
   cases s with
   | false =>
    rw [YD (by simp only [sgn, YB]; omega), YB]
    exact goal _ hd
   | true =>
    by_cases hr : m % 10 = 0
    ·rw [YD (by simp only [sgn, YC]; omega), YB]
     exact goal _ (by rw [hr] at hd ⊢; exact hd)
    ·rw [Yx (by simp only [sgn, YC]; omega), YC]
     refine goal _ ?_
     simp only [sgn, YC]
     rw [show w64 (0 - -((m % 10 : Nat) : Int)) = ((m % 10 : Nat) : Int) by rw [bW] <;> omega]
     exact hd

theorem JR : (9223372036854775808 : Nat) < 10 ^ 19 := by decide
theorem nr (n : Int) (h : mu n) : (Lib.itoa n).length ≤ 20 ∧ 0 < (Lib.itoa n).length := by
 have key : ∀ m : Nat, m ≤ 9223372036854775808 → (Lib.decDigits m).length ≤ 19 ∧ 0 < (Lib.decDigits m).length := by
  intro m hm
  by_cases h0 : m = 0
  ·subst h0; rw [Lib.decDigits, dif_pos (by decide)]; simp
  ·have e : dgs m = Lib.decDigits m := if_neg h0
   rw [← e]
   refine ⟨Dz 19 m (Z8 hm JR), ?_⟩
   rw [qB m (by omega)]
   simp
 obtain ⟨h1, h2⟩ := h
 unfold Lib.itoa
 split
 ·have := key n.natAbs (by omega)
  simp; omega
 ·have := key n.toNat (by omega)
  omega

theorem fM (N : Nat) (hN : 64 < N) (n : Int) (h : mu n) (k : ByteArray → Option β) : Hv N n k = k (B (Lib.itoa n)) := by
 obtain ⟨h1, h2⟩ := h
 unfold Hv Us
 by_cases h0 : n = 0
 ·subst h0
  show k (aj [48]) = _
  congr 1
  unfold Lib.itoa
  rw [if_neg (by decide), Lib.decDigits, dif_pos (by decide)]
  rfl
 ·rw [beq_eq_false_iff_ne.2 h0, YB, tQ]
  have e : n = sgn (decide (n < 0)) n.natAbs := by
   by_cases hn : n < 0
   ·rw [Yx hn]; simp only [sgn, YC]; omega
   ·rw [YD hn]; simp only [sgn, YB]; omega
  have hl := yL N (decide (n < 0)) (fun e0 e1 => cond e1 (gd (decide ((aj [45]).size + e0.size ≤ 9223372036854775807)) (k (aj [45] ++ e0))) (k e0)) 19 N n.natAbs (decide (n < 0)) [] (Z8 (by omega) JR) (by omega) (by simp) (by omega)
  rw [← e] at hl
  rw [hl, YR]
  have hd : dgs n.natAbs = Lib.decDigits n.natAbs := if_neg (by omega)
  have hlen := Dz 19 n.natAbs (Z8 (by omega) JR)
  unfold Lib.itoa
  by_cases hn : n < 0
  ·rw [Yx hn, if_pos hn, YC, et, be, be, ab (Yx (by simp; omega)), bX, hd]
   rfl
  ·rw [YD hn, if_neg hn, YB, hd, show n.natAbs = n.toNat by omega]
theorem bT (N : Nat) (n : Int) (h : mu n) (k : ByteArray → Option β) : dx N n k = k (B (Lib.itoa n)) := by
 unfold dx K1 strconv_Itoa
 rw [ab (Yx h.1), ab (Yx h.2)]
 rfl

end Go.Proofs.YtemihnclhcobnaaGreatDoor
namespace Go.Proofs.YtemihnclhcobnaaGreatDoor
open Go.Rv
variable {β : Type}
theorem AB (n : Nat) : ∀ y ∈ List.replicate n (0 : Int), mu y := by
 intro y hy
 have := (List.mem_replicate.1 hy).2
 subst this
 unfold mu; omega
theorem Nf (l : List (List UInt8)) (s : List UInt8) : ns (l.map B) (B s) = B (Lib.join l s) := by
 unfold ns B
 rw [aaC]
 have : ((fun x : ByteArray => x.data.toList) ∘ fun l : List UInt8 => (⟨l.toArray⟩ : ByteArray)) = id := by
  funext l
  simp
 rw [this]
 simp

end Go.Proofs.YtemihnclhcobnaaGreatDoor
namespace Go.Proofs.YtemihnclhcobnaaGreatDoor
open Go.Rv
variable {β : Type}
theorem R8 (w x : Nat) : ((bw w x : Int) == 0) = !w.testBit x := by unfold bw; cases w.testBit x <;> rfl
theorem Iz (w x : Nat) : ((bw w x : Int) == 1) = w.testBit x := by unfold bw; cases w.testBit x <;> rfl
theorem Iy (w x : Nat) (hw : w < 9223372036854775808) : bits .and .i64 (dr .i64 (w : Int) (x : Int)) 1 = (bw w x : Int) := fT w x hw

def Q0 (p : Nat → Bool) : Nat → Bool
 | 0 => true
 | m + 1 => Q0 p m && p m
def R (w n i b : Nat) : Nat := aZ (fun x => w.testBit (ins x i b)) (2 ^ (n - 1))
def mono (w n i : Nat) : Bool := (R w n i 0 &&& R w n i 1) == R w n i 0
def Yv (w n : Nat) : Bool := Q0 (mono w n) n && (!w.testBit 0 && w.testBit (2 ^ n - 1))
end Go.Proofs.YtemihnclhcobnaaGreatDoor
namespace Go.Proofs.YtemihnclhcobnaaGreatDoor
open Go.Rv
variable {β : Type}
def turn (w i x : Nat) : Bool := !x.testBit i && Xz w i x
theorem lV (N n i : Nat) (hN : 64 < N) (hn : n ≤ 5) (k : Int → Option β) : xw N (n : Int) (i : Int) k = k (aZ (fun x => x.testBit i) (2 ^ n) : Int) := by
 have hs := bZ hn
 have hz : (0 : Int) ≤ ((2 ^ n : Nat) : Int) := Za _
 refine bc (fun F x => tG N F (n : Int) (i : Int) (aZ (fun x => x.testBit i) x : Int) (x : Int) fun e => k e) (2 ^ n) _ (fun F x hx => ?_) (fun F => ?_) N 0 (by omega) (by omega)
 ·simp only [tG, Uw, P9]
  have ht : aZ (fun x => x.testBit i) x < 2 ^ 63 := YJ (dO _ x) (YE (by decide) (by omega))
  have hp : 2 ^ x < 2 ^ 63 := ZJ (by decide) (by omega)
  rw [ab (Yx (by omega)), aO n (by omega), Yx (by omega), YC, ab (Yx (by omega)), Iy x i (by omega), Iz, aB x (by omega)]
  cases hxb : x.testBit i with
  | true =>
   have e : aZ (fun x => x.testBit i) (x + 1) = aZ (fun x => x.testBit i) x ||| 2 ^ x := by simp [aZ, hxb]
   rw [YC, ab (Yx (by omega)), aO x (by omega), bOr _ _ ht hp, e]
  | false =>
   have e : aZ (fun x => x.testBit i) (x + 1) = aZ (fun x => x.testBit i) x := by simp [aZ, hxb]
   rw [YB, e]
 ·simp only [tG, Uw, P9]
  rw [ab (Yx (by omega)), aO n (by omega), YD (by omega), YB]
def Yw (w n i : Nat) : Bool := R w n i 0 == 0
end Go.Proofs.YtemihnclhcobnaaGreatDoor
namespace Go.Proofs.YtemihnclhcobnaaGreatDoor
open Go.Rv
set_option linter.unusedSimpArgs false
set_option linter.unusedSectionVars false
variable {β : Type}
def om (n w : Nat) : Nat → Nat → Option (List UInt8)
 | 0, _ => none
 | d + 1, i => cond (w == vw n i) (some [UInt8.ofNat (97 + i)]) (cond (w == full n - vw n i) (some [33, UInt8.ofNat (97 + i)]) (om n w d (i + 1)))
def cZ (T : List Int) (o : Bool) (w a : Nat) : Nat → Nat → Option Nat
 | 0, _ => none
 | d + 1, b => cond (decide (1 ≤ gt T b) && decide (gt T a + gt T b = gt T w) && (cond o (a &&& b) (a ||| b) == w)) (some b) (cZ T o w a d (b + 1))
def bC (T : List Int) (o : Bool) (w L : Nat) : Nat → Nat → Option (Nat × Nat)
 | 0, _ => none
 | d + 1, a => cond (decide (1 ≤ gt T a) && decide (gt T a < gt T w)) (match cZ T o w a L 0 with | some b => some (a, b) | none => bC T o w L d (a + 1)) (bC T o w L d (a + 1))
def fmF (T : List Int) (n : Nat) : Nat → Nat → List UInt8
 | 0, _ => []
 | F + 1, w => cond (w == 0) [48] (cond (w == full n) [49] (match cond (decide (gt T w = 1)) (om n w n 0) none with
  | some s => s
  | none => match bC T true w (2 ^ 2 ^ n) (2 ^ 2 ^ n) 0 with
   | some (a, b) => 38 :: fmF T n F a ++ fmF T n F b
   | none => match bC T false w (2 ^ 2 ^ n) (2 ^ 2 ^ n) 0 with
    | some (a, b) => 124 :: fmF T n F a ++ fmF T n F b
    | none => []))
theorem zy {T : List Int} {o : Bool} {w a b : Nat} : ∀ (d i : Nat), cZ T o w a d i = some b → 1 ≤ gt T b ∧ gt T a + gt T b = gt T w ∧ cond o (a &&& b) (a ||| b) = w ∧ i ≤ b ∧ b < i + d
 | 0, _, h => by cases h
 | d + 1, i, h => by
  unfold cZ at h
  cases hb : (decide (1 ≤ gt T i) && decide (gt T a + gt T i = gt T w) && (cond o (a &&& i) (a ||| i) == w)) with
  | true =>
   rw [hb, YC, Yy] at h
   subst h
   simp only [Yz, decide_eq_true_eq, beq_iff_eq] at hb
   exact ⟨hb.1.1, hb.1.2, hb.2, YG _, by omega⟩
  | false =>
   rw [hb, YB] at h
   obtain ⟨h1, h2, h3, h4, h5⟩ := zy d (i + 1) h
   exact ⟨h1, h2, h3, by omega, by omega⟩
theorem nC {T : List Int} {o : Bool} {w L a b : Nat} : ∀ (d i : Nat), bC T o w L d i = some (a, b) → 1 ≤ gt T a ∧ gt T a < gt T w ∧ a < i + d ∧ 1 ≤ gt T b ∧ gt T a + gt T b = gt T w ∧ b < L
 | 0, _, h => by cases h
 | d + 1, i, h => by
  unfold bC at h
  cases hb : (decide (1 ≤ gt T i) && decide (gt T i < gt T w)) with
  | true =>
   rw [hb, YC] at h
   cases hp : cZ T o w i L 0 with
   | some b' =>
    rw [hp] at h
    simp only [Yy, YU] at h
    obtain ⟨rfl, rfl⟩ := h
    simp only [Yz, decide_eq_true_eq] at hb
    obtain ⟨h1, h2, _, _, h5⟩ := zy L 0 hp
    exact ⟨hb.1, hb.2, by omega, h1, h2, by omega⟩
   | none =>
    rw [hp] at h
    obtain ⟨h1, h2, h3, h4⟩ := nC d (i + 1) h
    exact ⟨h1, h2, by omega, h4⟩
  | false =>
   rw [hb, YB] at h
   obtain ⟨h1, h2, h3, h4⟩ := nC d (i + 1) h
   exact ⟨h1, h2, by omega, h4⟩
theorem jF (T : List Int) (i : Nat) : rd 0 T (i : Int) = gt T i := by unfold rd gt; rw [Zb]
theorem gs2 (s t : List UInt8) (h : s.length + t.length ≤ 1000000) (X : Option β) : gd (decide ((B s).size + (B t).size ≤ 9223372036854775807)) X = X := ab (Yx (by rw [be, be]; omega))
theorem BA {T : List Int} {o : Bool} {w a d : Nat} (h : gt T 0 = 0) : cZ T o w a (d + 1) 0 = cZ T o w a d 1 := by
 show cond (decide (1 ≤ gt T 0) && _ && _) _ _ = _
 rw [h, show decide ((1 : Int) ≤ 0) = false from rfl, YZ, YZ, YB]
theorem Bz {T : List Int} {o : Bool} {w a i : Nat} (h : gt T i = 0) : cZ T o w a 1 i = none := by
 show cond (decide (1 ≤ gt T i) && _ && _) _ _ = _
 rw [h, show decide ((1 : Int) ≤ 0) = false from rfl, YZ, YZ, YB]
 rfl
section
variable (N : Nat) (hN : 1048576 < N) {n : Nat} (hn : n ≤ 3) {T : List Int} (hT : tj n T) {w a : Nat} (hw : w < 2 ^ 2 ^ n) (ha : a < 2 ^ 2 ^ n) (g : Nat → List UInt8)
 (hg : ∀ x, (g x).length ≤ 1000) (ha1 : 1 ≤ gt T a) (ha2 : gt T a < gt T w)
include hN hn hT hw ha hg ha1 ha2
theorem pq (o : Bool) (self : List Int → Int → Int → (ByteArray → Option β) → Option β) (hs : ∀ x, x < 2 ^ 2 ^ n → 1 ≤ gt T x → gt T x < gt T w → ∀ K, self T (n : Int) (x : Int) K = K (B (g x))) (k0 : ByteArray → Option β) (k1 : List Int → Int → Int → Int → Int → Option β) :
  ∀ (d F i : Nat), i + d = 2 ^ 2 ^ n - 1 → d < F → tg N self F T (n : Int) (w : Int) (cond o 0 1) (a : Int) (i : Int) k0 k1 =
   match cZ T o w a (d + 1) i with
   | some b => k0 (B (cond o 38 124 :: g a ++ g b))
   | none => k1 T (n : Int) (w : Int) (cond o 0 1) (a : Int)
 | d, 0, _, _, h => absurd h (Zz _)
 | 0, F + 1, i, hi, _ => by
  obtain rfl : i = 2 ^ 2 ^ n - 1 := by omega
  rw [Bz hT.full]
  show LT N self T (n : Int) (w : Int) (cond o 0 1) (a : Int) _ _ k0 k1 = _
  unfold LT Qq
  rw [cc N n (by omega), YD (by omega)]
  rfl
 | d + 1, F + 1, i, hi, hF => by
  have hL := hT.len
  have ih := pq o self hs k0 k1 d F (i + 1) (by omega) (by omega)
  have hla := hT.le a
  have hlb := hT.le i
  have hlw := hT.le w
  have hL2 : 2 ^ 2 ^ n ≤ 256 := by
   obtain rfl | rfl | rfl | rfl : n = 0 ∨ n = 1 ∨ n = 2 ∨ n = 3 := by omega
   all_goals decide
  show LT N self T (n : Int) (w : Int) (cond o 0 1) (a : Int) (i : Int) _ k0 k1 = _
  unfold LT Qq
  rw [cc N n (by omega), Yx (by omega : (i : Int) < ((2 ^ 2 ^ n - 1 : Nat) : Int)), YC, ab (Yx (by omega)), ab (Yx (by omega)), ab (Yx (by omega)), ab (Yx (by omega)), ab (Yx (by omega)), ab (Yx (by omega))]
  rw [jF, jF, jF, bW (by omega) (by omega), aB i (by omega), bAnd a i (by omega) (by omega), bOr a i (by omega) (by omega)]
  dsimp only
  have hp : cZ T o w a (d + 1 + 1) i = cond (decide (1 ≤ gt T i) && decide (gt T a + gt T i = gt T w) && (cond o (a &&& i) (a ||| i) == w)) (some i) (cZ T o w a (d + 1) (i + 1)) := rfl
  rw [hp]
  by_cases e1 : gt T a + gt T i = gt T w
  ·have hi1 : 1 ≤ gt T i := by omega
   have hilt : gt T i < gt T w := by omega
   have b1 : ((gt T a + gt T i) != gt T w) = false := by simp [e1]
   rw [b1, YB, Yx hi1, Yx e1, YI, YI]
   have ga := hg a
   have gi := hg i
   cases o with
   | true =>
    rw [YC, YC, YC, show ((0 : Int) == 0) = true from rfl, YC]
    by_cases e2 : a &&& i = w
    ·rw [show (((a &&& i : Nat) : Int) == (w : Int)) = true by simp [e2], show (a &&& i == w) = true by simp [e2], YC, YC, hs a ha ha1 ha2, show aj [38] = B [38] from rfl, gs2 _ _ (by simp only [YQ, Zi]; omega), hs i (by omega) hi1 hilt, bX, gs2 _ _ (by simp only [YF, YQ, Zi]; omega), bX]
     rfl
    ·rw [show (((a &&& i : Nat) : Int) == (w : Int)) = false by rw [beq_eq_false_iff_ne]; omega, show (a &&& i == w) = false by simp [e2], YB, YB, show ((0 : Int) == 1) = false from rfl, YB]
     exact ih
   | false =>
    rw [YB, YB, YB, show ((1 : Int) == 0) = false from rfl, YB, show ((1 : Int) == 1) = true from rfl, YC]
    by_cases e2 : a ||| i = w
    ·rw [show (((a ||| i : Nat) : Int) == (w : Int)) = true by simp [e2], show (a ||| i == w) = true by simp [e2], YC, YC, hs a ha ha1 ha2, show aj [124] = B [124] from rfl, gs2 _ _ (by simp only [YQ, Zi]; omega), hs i (by omega) hi1 hilt, bX, gs2 _ _ (by simp only [YF, YQ, Zi]; omega), bX]
     rfl
    ·rw [show (((a ||| i : Nat) : Int) == (w : Int)) = false by rw [beq_eq_false_iff_ne]; omega, show (a ||| i == w) = false by simp [e2], YB, YB]
     exact ih
  ·rw [show ((gt T a + gt T i) != gt T w) = true by simp [e1], YC, YD e1, aaE, YZ, YB]
   exact ih
end
theorem Bx {T : List Int} {o : Bool} {w L i : Nat} (h : gt T i = 0) : bC T o w L 1 i = none := by
 show cond (decide (1 ≤ gt T i) && _) _ _ = _
 rw [h, show decide ((1 : Int) ≤ 0) = false from rfl, YZ, YB]
 rfl
theorem By {T : List Int} {o : Bool} {w L d : Nat} (h : gt T 0 = 0) : bC T o w L (d + 1) 0 = bC T o w L d 1 := by
 show cond (decide (1 ≤ gt T 0) && _) _ _ = _
 rw [h, show decide ((1 : Int) ≤ 0) = false from rfl, YZ, YB]
section
variable (N : Nat) (hN : 1048576 < N) {n : Nat} (hn : n ≤ 3) {T : List Int} (hT : tj n T) {w : Nat} (hw : w < 2 ^ 2 ^ n) (g : Nat → List UInt8) (hg : ∀ x, (g x).length ≤ 1000)
include hN hn hT hw hg
theorem pp (o : Bool) (self : List Int → Int → Int → (ByteArray → Option β) → Option β) (hs : ∀ x, x < 2 ^ 2 ^ n → 1 ≤ gt T x → gt T x < gt T w → ∀ K, self T (n : Int) (x : Int) K = K (B (g x))) (k0 : ByteArray → Option β) (k1 : List Int → Int → Int → Int → Option β) :
  ∀ (d F i : Nat), i + d = 2 ^ 2 ^ n - 1 → 1 ≤ i → d < F → oX N self F T (n : Int) (w : Int) (cond o 0 1) (i : Int) k0 k1 =
   match bC T o w (2 ^ 2 ^ n) (d + 1) i with
   | some (a, b) => k0 (B (cond o 38 124 :: g a ++ g b))
   | none => k1 T (n : Int) (w : Int) (cond o 0 1)
 | d, 0, _, _, _, h => absurd h (Zz _)
 | 0, F + 1, i, hi, _, _ => by
  obtain rfl : i = 2 ^ 2 ^ n - 1 := by omega
  rw [Bx hT.full]
  show LU N self T (n : Int) (w : Int) (cond o 0 1) _ _ k0 k1 = _
  unfold LU Qr
  rw [cc N n (by omega), YD (by omega)]
  rfl
 | d + 1, F + 1, i, hi, h1, hF => by
  have hL := hT.len
  have hlw := hT.le w
  have hL2 : 2 ^ 2 ^ n ≤ 256 := by
   obtain rfl | rfl | rfl | rfl : n = 0 ∨ n = 1 ∨ n = 2 ∨ n = 3 := by omega
   all_goals decide
  have hmid := hT.mid i (by omega) (by omega)
  have ih := pp o self hs k0 k1 d F (i + 1) (by omega) (by omega) (by omega)
  show LU N self T (n : Int) (w : Int) (cond o 0 1) (i : Int) _ k0 k1 = _
  unfold LU Qr
  rw [cc N n (by omega), Yx (by omega : (i : Int) < ((2 ^ 2 ^ n - 1 : Nat) : Int)), YC, ab (Yx (by omega)), ab (Yx (by omega)), ab (Yx (by omega)), ab (Yx (by omega)), jF, jF, aB i (by omega)]
  have hp : bC T o w (2 ^ 2 ^ n) (d + 1 + 1) i = cond (decide (1 ≤ gt T i) && decide (gt T i < gt T w)) (match cZ T o w i (2 ^ 2 ^ n) 0 with | some b => some (i, b) | none => bC T o w (2 ^ 2 ^ n) (d + 1) (i + 1)) (bC T o w (2 ^ 2 ^ n) (d + 1) (i + 1)) := rfl
  rw [hp, Yx hmid, YI]
  by_cases e1 : gt T i < gt T w
  ·have hz : cZ T o w i (2 ^ 2 ^ n) 0 = cZ T o w i (2 ^ 2 ^ n - 2 + 1) 1 := by
    rw [show 2 ^ 2 ^ n = 2 ^ 2 ^ n - 2 + 1 + 1 by omega]
    exact BA hT.zero
   rw [YD (by omega : ¬ gt T i ≥ gt T w), YB, Yx e1, YC, hz]
   have hb := pq N hN hn hT hw (by omega : i < 2 ^ 2 ^ n) g hg hmid e1 o self hs k0 (fun x1 x2 x3 x4 x5 => oX N self F x1 x2 x3 x4 (w64 (x5 + 1)) k0 k1) (2 ^ 2 ^ n - 2) N 1 (by omega) (by omega)
   refine ZU hb ?_
   cases cZ T o w i (2 ^ 2 ^ n - 2 + 1) 1 with
   | some b => rfl
   | none =>
    show oX N self F T (n : Int) (w : Int) (cond o 0 1) (w64 ((i : Int) + 1)) k0 k1 = _
    rw [aB i (by omega)]
    exact ih
  ·rw [Yx (by omega : gt T i ≥ gt T w), YC, YD e1, YB]
   exact ih
theorem Ae (self : List Int → Int → Int → (ByteArray → Option β) → Option β) (hs : ∀ x, x < 2 ^ 2 ^ n → 1 ≤ gt T x → gt T x < gt T w → ∀ K, self T (n : Int) (x : Int) K = K (B (g x))) (hL4 : 2 ≤ 2 ^ 2 ^ n) (k0 : ByteArray → Option β) (k1 : Option β) :
  ik N self N T (n : Int) (w : Int) 0 k0 k1 =
   match bC T true w (2 ^ 2 ^ n) (2 ^ 2 ^ n) 0 with
   | some (a, b) => k0 (B (38 :: g a ++ g b))
   | none => match bC T false w (2 ^ 2 ^ n) (2 ^ 2 ^ n) 0 with
    | some (a, b) => k0 (B (124 :: g a ++ g b))
    | none => k1 := by
 obtain ⟨M, rfl⟩ : ∃ M, N = M + 3 := ⟨N - 3, by omega⟩
 have hL2 : 2 ^ 2 ^ n ≤ 256 := by
  obtain rfl | rfl | rfl | rfl : n = 0 ∨ n = 1 ∨ n = 2 ∨ n = 3 := by omega
  all_goals decide
 have hz : ∀ o, bC T o w (2 ^ 2 ^ n) (2 ^ 2 ^ n) 0 = bC T o w (2 ^ 2 ^ n) (2 ^ 2 ^ n - 2 + 1) 1 := fun o => by
  have h := By (T := T) (o := o) (w := w) (L := 2 ^ 2 ^ n) (d := 2 ^ 2 ^ n - 2 + 1) hT.zero
  rw [show 2 ^ 2 ^ n - 2 + 1 + 1 = 2 ^ 2 ^ n by omega] at h
  exact h
 rw [hz true, hz false]
 have ha := fun o k0 (k1 : List Int → Int → Int → Int → Option β) => pp (M + 3) hN hn hT hw g hg o self hs k0 k1 (2 ^ 2 ^ n - 2) (M + 3) 1 (by omega) (YG _) (by omega)
 show LV (M + 3) self T (n : Int) (w : Int) 0 (fun v0 v1 v2 v3 => ik (M + 3) self (M + 2) v0 v1 v2 v3 k0 k1) k0 k1 = _
 unfold LV Qs
 refine ZU (ha true _ _) ?_
 cases bC T true w (2 ^ 2 ^ n) (2 ^ 2 ^ n - 2 + 1) 1 with
 | some p => rfl
 | none =>
  show LV (M + 3) self T (n : Int) (w : Int) 1 (fun v0 v1 v2 v3 => ik (M + 3) self (M + 1) v0 v1 v2 v3 k0 k1) k0 k1 = _
  unfold LV Qs
  refine ZU (ha false _ _) ?_
  cases bC T false w (2 ^ 2 ^ n) (2 ^ 2 ^ n - 2 + 1) 1 with
  | some p => rfl
  | none => rfl
end
theorem CH : ∀ n, n ≤ 3 → ∀ i, i < n → aZ (fun x => x.testBit i) (2 ^ n) = vw n i := by decide +kernel
theorem DJ (i : Nat) (hi : i < 3) : (aj [97, 98, 99, 100, 101]).extract (Int.toNat (i : Int)) (Int.toNat ((i + 1 : Nat) : Int)) = B [UInt8.ofNat (97 + i)] := by
 obtain rfl | rfl | rfl : i = 0 ∨ i = 1 ∨ i = 2 := by omega
 all_goals rfl
theorem Ad (N : Nat) (hN : 1048576 < N) {n : Nat} (hn : n ≤ 3) {T : List Int} (hT : tj n T) {w : Nat} (hw : w < 2 ^ 2 ^ n) (k0 : ByteArray → Option β) (k1 : List Int → Int → Int → Option β) :
  ∀ (d F i : Nat), i + d = n → d < F → tf N F T (n : Int) (w : Int) (i : Int) k0 k1 = match cond (decide (gt T w = 1)) (om n w d i) none with
   | some s => k0 (B s)
   | none => k1 T (n : Int) (w : Int)
 | d, 0, _, _, h => absurd h (Zz _)
 | 0, F + 1, i, hi, _ => by
  obtain rfl : i = n := by omega
  show LS N T (i : Int) (w : Int) (i : Int) _ k0 k1 = _
  unfold LS Qp
  rw [YD (by omega)]
  cases decide (gt T w = 1) <;> rfl
 | d + 1, F + 1, i, hi, hF => by
  have hL := hT.len
  have ih := Ad N hN hn hT hw k0 k1 d F (i + 1) (by omega) (by omega)
  have hv := Er n hn i (by omega)
  have hv2 := Rh n hn i (by omega)
  have hfu : full n = 2 ^ 2 ^ n - 1 := rfl
  have hL2 : 2 ^ 2 ^ n ≤ 256 := by
   obtain rfl | rfl | rfl | rfl : n = 0 ∨ n = 1 ∨ n = 2 ∨ n = 3 := by omega
   all_goals decide
  show LS N T (n : Int) (w : Int) (i : Int) _ k0 k1 = _
  unfold LS Qp
  rw [Yx (by omega : (i : Int) < (n : Int)), YC, ab (Yx (by omega)), ab (Yx (by omega)), jF]
  by_cases e1 : gt T w = 1
  ·rw [show (gt T w == 1) = true by simp [e1], YC, Yx e1, YC, lV N n i (by omega) (by omega), CH n hn i (by omega), cc N n (by omega), lV N n i (by omega) (by omega), CH n hn i (by omega)]
   dsimp only
   have hsub : w64 (((2 ^ 2 ^ n - 1 : Nat) : Int) - ((vw n i : Nat) : Int)) = ((full n - vw n i : Nat) : Int) := by rw [bW (by omega) (by omega)]; omega
   rw [hsub, aB i (by omega)]
   have hl : om n w (d + 1) i = cond (w == vw n i) (some [UInt8.ofNat (97 + i)]) (cond (w == full n - vw n i) (some [33, UInt8.ofNat (97 + i)]) (om n w d (i + 1))) := rfl
   rw [hl]
   have hsz : (aj [97, 98, 99, 100, 101]).size = 5 := rfl
   by_cases e2 : w = vw n i
   ·rw [show ((w : Int) == ((vw n i : Nat) : Int)) = true by simp [e2], show (w == vw n i) = true by simp [e2], YC, YC, ab (Yx (by omega)), ab (Yx (by rw [hsz]; omega)), ab (Yx (by omega)), ab (Yx (by omega)), DJ i (by omega)]
   ·rw [show ((w : Int) == ((vw n i : Nat) : Int)) = false by rw [beq_eq_false_iff_ne]; omega, show (w == vw n i) = false by simp [e2], YB, YB]
    by_cases e3 : w = full n - vw n i
    ·rw [show ((w : Int) == ((full n - vw n i : Nat) : Int)) = true by simp [e3], show (w == full n - vw n i) = true by simp [e3], YC, YC, ab (Yx (by omega)), ab (Yx (by rw [hsz]; omega)), ab (Yx (by omega)), ab (Yx (by omega)), DJ i (by omega), show aj [33] = B [33] from rfl, gs2 _ _ (by simp), bX]
     rfl
    ·rw [show ((w : Int) == ((full n - vw n i : Nat) : Int)) = false by rw [beq_eq_false_iff_ne]; omega, show (w == full n - vw n i) = false by simp [e3], YB, YB]
     rw [Yx e1, YC] at ih
     exact ih
  ·rw [show (gt T w == 1) = false by simp [e1], YB, YD e1, YB]
theorem zj {n w : Nat} {s : List UInt8} : ∀ (d i : Nat), om n w d i = some s → s.length ≤ 2
 | 0, _, h => by cases h
 | d + 1, i, h => by
  unfold om at h
  cases h1 : w == vw n i with
  | true => rw [h1, YC, Yy] at h; subst h; simp
  | false =>
   rw [h1, YB] at h
   cases h2 : w == full n - vw n i with
   | true => rw [h2, YC, Yy] at h; subst h; simp
   | false => rw [h2, YB] at h; exact zj d (i + 1) h
theorem I4 {n : Nat} {T : List Int} (hT : tj n T) : ∀ (F w : Nat), ((fmF T n F w).length : Int) ≤ if 1 ≤ gt T w then 3 * gt T w - 1 else 1
 | 0, w => by
  show ((0 : Nat) : Int) ≤ _
  split <;> omega
 | F + 1, w => by
  have ih := I4 hT F
  have two : ∀ a b, 1 ≤ gt T a → 1 ≤ gt T b → gt T a + gt T b = gt T w → ∀ c : UInt8, ((c :: fmF T n F a ++ fmF T n F b).length : Int) ≤ if 1 ≤ gt T w then 3 * gt T w - 1 else 1 := fun a b h1 h2 h3 c => by
   have ha := ih a
   have hb := ih b
   rw [if_pos h1] at ha
   rw [if_pos h2] at hb
   rw [if_pos (by omega)]
   simp only [aaO, YQ, YF]
   omega
  unfold fmF
  cases h0 : w == 0 with
  | true =>
   rw [YC]
   have : w = 0 := by simpa using h0
   subst this
   rw [hT.zero]; simp
  | false =>
   rw [YB]
   cases h1 : w == full n with
   | true =>
    rw [YC]
    have : w = full n := by simpa using h1
    subst this
    rw [show full n = 2 ^ 2 ^ n - 1 from rfl, hT.full]; simp
   | false =>
    rw [YB]
    cases hl : cond (decide (gt T w = 1)) (om n w n 0) none with
    | some s =>
     dsimp only
     cases h2 : decide (gt T w = 1) with
     | false => rw [h2] at hl; cases hl
     | true =>
      rw [h2, YC] at hl
      have := zj n 0 hl
      rw [of_decide_eq_true h2]
      simp only [Int.le_refl, if_true]
      omega
    | none =>
     dsimp only
     cases hp : bC T true w (2 ^ 2 ^ n) (2 ^ 2 ^ n) 0 with
     | some p =>
      obtain ⟨a, b⟩ := p
      obtain ⟨p1, _, _, p4, p5, _⟩ := nC _ _ hp
      exact two a b p1 p4 p5 38
     | none =>
      dsimp only
      cases hq : bC T false w (2 ^ 2 ^ n) (2 ^ 2 ^ n) 0 with
      | some p =>
       obtain ⟨a, b⟩ := p
       obtain ⟨p1, _, _, p4, p5, _⟩ := nC _ _ hq
       exact two a b p1 p4 p5 124
      | none =>
       show ((0 : Nat) : Int) ≤ _
       split <;> omega
theorem pJ {n : Nat} {T : List Int} (hT : tj n T) (F w : Nat) : (fmF T n F w).length ≤ 1000 := by
 have h := I4 hT F w
 have hl := hT.le w
 split at h <;> omega
theorem sy {N : Nat} (hN : 1048576 < N) {n : Nat} (hn : n ≤ 3) {T : List Int} (hT : tj n T) : ∀ (F w : Nat), w < 2 ^ 2 ^ n → gt T w < F → ∀ K : ByteArray → Option β, c8 N F T (n : Int) (w : Int) K = K (B (fmF T n F w))
 | 0, w, _, h, _ => by have := hT.le w; omega
 | F + 1, w, hw, hF, K => by
  have hs : ∀ x, x < 2 ^ 2 ^ n → 1 ≤ gt T x → gt T x < gt T w → ∀ K : ByteArray → Option β, c8 N F T (n : Int) (x : Int) K = K (B (fmF T n F x)) := fun x hx _ h2 K => sy hN hn hT F x hx (by omega) K
  have hL2 : 2 ≤ 2 ^ 2 ^ n := by
   obtain rfl | rfl | rfl | rfl : n = 0 ∨ n = 1 ∨ n = 2 ∨ n = 3 := by omega
   all_goals decide
  show Lt N (c8 N F) T (n : Int) (w : Int) K = _
  unfold Lt KM fmF
  cases h0 : w == 0 with
  | true =>
   have : w = 0 := by simpa using h0
   subst this
   rfl
  | false =>
   have h0' : w ≠ 0 := by simpa using h0
   rw [show ((w : Int) == 0) = false by rw [beq_eq_false_iff_ne]; omega, YB, YB, cc N n (by omega)]
   cases h1 : w == full n with
   | true =>
    have : w = full n := by simpa using h1
    subst this
    rw [show ((full n : Nat) : Int) = ((2 ^ 2 ^ n - 1 : Nat) : Int) from rfl, beq_self_eq_true]
    rfl
   | false =>
    have h1' : w ≠ 2 ^ 2 ^ n - 1 := by
     have : w ≠ full n := by simpa using h1
     exact this
    rw [show ((w : Int) == ((2 ^ 2 ^ n - 1 : Nat) : Int)) = false by rw [beq_eq_false_iff_ne]; omega, YB, YB]
    refine ZU (Ad N hN hn hT hw _ _ n N 0 (by omega) (by omega)) ?_
    cases cond (decide (gt T w = 1)) (om n w n 0) none with
    | some s => rfl
    | none =>
     dsimp only
     refine ZU (Ae N hN hn hT hw (fmF T n F) (pJ hT F) _ hs hL2 _ _) ?_
     cases bC T true w (2 ^ 2 ^ n) (2 ^ 2 ^ n) 0 with
     | some p => rfl
     | none =>
      cases bC T false w (2 ^ 2 ^ n) (2 ^ 2 ^ n) 0 with
      | some p => rfl
      | none => rfl
end Go.Proofs.YtemihnclhcobnaaGreatDoor
namespace Go.Proofs.YtemihnclhcobnaaGreatDoor
open Go.Rv
set_option linter.unusedSimpArgs false
set_option linter.unusedSectionVars false
variable {β : Type}
theorem V5 (X : Option β) : gd true X = X := rfl
section
variable (N : Nat) (hN : 1048576 < N) {n : Nat} (hn : n ≤ 3) {T : List Int} (hT : tj n T) {w a : Nat} (hw : w < 2 ^ 2 ^ n) (ha : a < 2 ^ 2 ^ n) (g : Nat → List UInt8)
 (hg : ∀ x, (g x).length ≤ 1000) (ha1 : 1 ≤ gt T a) (ha2 : gt T a < gt T w)
include hN hn hT hw ha hg ha1 ha2
theorem pa (o : Bool) (self : Int → Int → List Int → (ByteArray → Option β) → Option β) (hs : ∀ x, x < 2 ^ 2 ^ n → 1 ≤ gt T x → gt T x < gt T w → ∀ K, self (n : Int) (x : Int) T K = K (B (g x))) (x4 x5 : Int) (x6 : List Int) (x7 x8 : Int) (x14 : List Int) (k0 : ByteArray → Option β) (k1 : List Int → Int → Int → Int → List Int → Int → Int → Int → Int → List Int → Option β) :
  ∀ (d F i : Nat), i + d = 2 ^ 2 ^ n → d < F → k8 N self F T (cond o 38 124) (a : Int) (gt T a) x4 x5 x6 x7 x8 T (T.length : Int) (i : Int) (n : Int) (w : Int) x14 k0 k1 =
   match cZ T o w a d i with
   | some b => k0 (B (cond o 38 124 :: g a ++ g b))
   | none => k1 T (cond o 38 124) x4 x5 x6 x7 x8 (n : Int) (w : Int) x14
 | d, 0, _, _, h => absurd h (Zz _)
 | 0, F + 1, i, hi, _ => by
  have hL := hT.len
  obtain rfl : i = 2 ^ 2 ^ n := by omega
  show AG N self T (cond o 38 124) (a : Int) (gt T a) x4 x5 x6 x7 x8 T (T.length : Int) _ (n : Int) (w : Int) x14 _ k0 k1 = _
  unfold AG EK
  rw [YD (by omega)]
  rfl
 | d + 1, F + 1, i, hi, hF => by
  have hL := hT.len
  have ih := pa o self hs x4 x5 x6 x7 x8 x14 k0 k1 d F (i + 1) (by omega) (by omega)
  have hla := hT.le a
  have hlb := hT.le i
  have hlw := hT.le w
  have hL2 : 2 ^ 2 ^ n ≤ 256 := by
   obtain rfl | rfl | rfl | rfl : n = 0 ∨ n = 1 ∨ n = 2 ∨ n = 3 := by omega
   all_goals decide
  show AG N self T (cond o 38 124) (a : Int) (gt T a) x4 x5 x6 x7 x8 T (T.length : Int) (i : Int) (n : Int) (w : Int) x14 _ k0 k1 = _
  unfold AG EK
  rw [Yx (by omega : (i : Int) < (T.length : Int)), YC, ab (Yx (by omega)), jF, jF, aB i (by omega), bW (by omega) (by omega), bAnd a i (by omega) (by omega), bOr a i (by omega) (by omega)]
  dsimp only
  have hp : cZ T o w a (d + 1) i = cond (decide (1 ≤ gt T i) && decide (gt T a + gt T i = gt T w) && (cond o (a &&& i) (a ||| i) == w)) (some i) (cZ T o w a d (i + 1)) := rfl
  rw [hp]
  have g0 : ∀ X : Option β, gd (decide ((0 : Int) ≤ (w : Int))) X = X := fun X => ab (Yx (by omega))
  have g1 : ∀ X : Option β, gd (decide ((w : Int) < (T.length : Int))) X = X := fun X => ab (Yx (by omega))
  simp only [g0, g1, V5]
  have ga := hg a
  have gi := hg i
  cases o with
  | true =>
   simp only [YC] at ih ⊢
   rw [show ((38 : Int) == 124) = false from rfl, YB]
   by_cases e0 : 1 ≤ gt T i
   ·rw [Yx e0, YI, YC]
    by_cases e1 : gt T a + gt T i = gt T w
    ·have hilt : gt T i < gt T w := by omega
     rw [show (gt T a + gt T i == gt T w) = true by simp [e1], YC, Yx e1, YI]
     by_cases e2 : a &&& i = w
     ·rw [show (((a &&& i : Nat) : Int) == (w : Int)) = true by simp [e2], show (a &&& i == w) = true by simp [e2], YC, YC, hs a ha ha1 ha2, hs i (by omega) e0 hilt]
      show gd (decide ((B [38]).size + (B (g a)).size ≤ 9223372036854775807)) (gd (decide ((B [38] ++ B (g a)).size + (B (g i)).size ≤ 9223372036854775807)) (k0 (B [38] ++ B (g a) ++ B (g i)))) = _
      rw [gs2 _ _ (by simp only [YQ, Zi]; omega), bX, gs2 _ _ (by simp only [YF, YQ, Zi]; omega), bX]
      rfl
     ·rw [show (((a &&& i : Nat) : Int) == (w : Int)) = false by rw [beq_eq_false_iff_ne]; omega, show (a &&& i == w) = false by simp [e2], YB, YB]
      exact ih
    ·rw [show (gt T a + gt T i == gt T w) = false by rw [beq_eq_false_iff_ne]; exact e1, YB, YD e1, YZ, YB]
     exact ih
   ·rw [YD e0, YZ, YZ, YB, YB]
    exact ih
  | false =>
   simp only [YB] at ih ⊢
   rw [show ((124 : Int) == 124) = true from rfl, YC]
   by_cases e0 : 1 ≤ gt T i
   ·rw [Yx e0, YI, YC]
    by_cases e1 : gt T a + gt T i = gt T w
    ·have hilt : gt T i < gt T w := by omega
     rw [show (gt T a + gt T i == gt T w) = true by simp [e1], YC, Yx e1, YI]
     by_cases e2 : a ||| i = w
     ·rw [show (((a ||| i : Nat) : Int) == (w : Int)) = true by simp [e2], show (a ||| i == w) = true by simp [e2], YC, YC, hs a ha ha1 ha2, hs i (by omega) e0 hilt]
      show gd (decide ((B [124]).size + (B (g a)).size ≤ 9223372036854775807)) (gd (decide ((B [124] ++ B (g a)).size + (B (g i)).size ≤ 9223372036854775807)) (k0 (B [124] ++ B (g a) ++ B (g i)))) = _
      rw [gs2 _ _ (by simp only [YQ, Zi]; omega), bX, gs2 _ _ (by simp only [YF, YQ, Zi]; omega), bX]
      rfl
     ·rw [show (((a ||| i : Nat) : Int) == (w : Int)) = false by rw [beq_eq_false_iff_ne]; omega, show (a ||| i == w) = false by simp [e2], YB, YB]
      exact ih
    ·rw [show (gt T a + gt T i == gt T w) = false by rw [beq_eq_false_iff_ne]; exact e1, YB, YD e1, YZ, YB]
     exact ih
   ·rw [YD e0, YZ, YZ, YB, YB]
    exact ih
end
end Go.Proofs.YtemihnclhcobnaaGreatDoor
namespace Go.Proofs.YtemihnclhcobnaaGreatDoor
open Go.Rv
set_option linter.unusedVariables false
set_option linter.unusedSimpArgs false
variable {β : Type}
def okT (n m v : Nat) : Bool := decide (m < 2 ^ n) && (v &&& m == v)
def CM (n : Nat) (t : Nat × Nat) : Prop := okT n t.1 t.2 = true ∧ t.1 < 32 ∧ t.2 < 32
def Ts (n : Nat) (o : List (Nat × Nat)) : Prop := ∀ t ∈ o, CM n t
def ft (m v : Nat) : Nat → List UInt8
 | 0 => []
 | i + 1 => ft m v i ++ cond (m.testBit i) (cond (v.testBit i) [UInt8.ofNat (97 + i)] [33, UInt8.ofNat (97 + i)]) []
def ftb (n m v : Nat) : List UInt8 := cond (okT n m v) (cond (ft m v n == []) [49] (ft m v n)) []
def bo (n : Nat) (o : List (Nat × Nat)) : List (List UInt8) := o.map fun t => ftb n t.1 t.2
def qP (n : Nat) (o : List (Nat × Nat)) : List UInt8 := cond (o.length == 0) [48] (Lib.join (bo n o) [124])
theorem jr (c : UInt8) (b : Nat) : ∀ l : List (List UInt8), (∀ x ∈ l, x.length ≤ b) → (Lib.join l [c]).length ≤ (b + 1) * l.length
 | [], _ => by simp [Lib.join]
 | x :: l, h => by
  rw [Lib.join_cons, YF, Lib.joinTail_length]
  have h1 := h x (by simp)
  have h2 : ∀ l : List (List UInt8), (∀ x ∈ l, x.length ≤ b) → Lib.lens l ≤ b * l.length := by
   intro l
   induction l with
   | nil => intro _; simp [Lib.lens]
   | cons y l ih =>
    intro h
    have e1 := h y (by simp)
    have e2 := ih fun z hz => h z (by simp [hz])
    simp only [Lib.lens, Zh, List.sum_cons, YQ] at e2 ⊢
    rw [Nat.mul_add, ZO]
    omega
  have h3 := h2 l fun z hz => h z (by simp [hz])
  simp only [YQ, Zi]
  have e3 : (b + 1) * (l.length + 1) = b * l.length + l.length + b + 1 := by rw [Z7, aaK, Nat.mul_add, ZO]; omega
  rw [e3]
  omega
def scn : List UInt8 → Bool → Nat → Nat → Nat × Nat
 | [], _, m, v => (m, v)
 | b :: l, f, m, v =>
  if b.toNat = 33 then scn l true m v
  else if 97 ≤ b.toNat ∧ b.toNat < 102 then scn l false (m ||| 2 ^ (b.toNat - 97)) (cond f v (v ||| 2 ^ (b.toNat - 97)))
  else scn l f m v
def ptm (n : Nat) (l : List UInt8) : Option (Nat × Nat) :=
 if l = [49] then some (0, 0) else if l = [] then none else if ftb n (scn l false 0 0).1 (scn l false 0 0).2 = l then some (scn l false 0 0) else none
theorem M7 : ∀ n : Nat, n ≤ 4 → ∀ m : Nat, m < 2 ^ n → ∀ v : Nat, v < 2 ^ n → (!(v &&& m == v) || (decide (0 < (ftb n m v).length) && decide ((ftb n m v).length ≤ 10) && !(ftb n m v).contains 124 && !(ftb n m v).contains 48 && (ptm n (ftb n m v) == some (m, v)))) = true := by decide +kernel
theorem nj {n : Nat} (hn : n ≤ 4) {t : Nat × Nat} (h : CM n t) : 0 < (ftb n t.1 t.2).length ∧ (ftb n t.1 t.2).length ≤ 10 ∧ (124 : UInt8) ∉ ftb n t.1 t.2 ∧ (48 : UInt8) ∉ ftb n t.1 t.2 ∧ ptm n (ftb n t.1 t.2) = some t := by
 obtain ⟨h1, -, -⟩ := h
 unfold okT at h1
 rw [Yz, decide_eq_true_eq] at h1
 have hle : t.2 ≤ t.1 := by rw [← eq_of_beq h1.2]; exact aag
 have h2 := M7 n hn t.1 h1.1 t.2 (by omega)
 rw [h1.2, YP, Z3] at h2
 simp only [Yz, decide_eq_true_eq, YT] at h2
 obtain ⟨⟨⟨⟨a1, a2⟩, a3⟩, a4⟩, a5⟩ := h2
 refine ⟨a1, a2, fun h => ?_, fun h => ?_, eq_of_beq a5⟩
 ·rw [aac.2 h] at a3; cases a3
 ·rw [aac.2 h] at a4; cases a4
theorem KD {n : Nat} (hn : n ≤ 4) {o : List (Nat × Nat)} (hg : Ts n o) : ∀ x ∈ bo n o, 0 < x.length ∧ x.length ≤ 10 ∧ (124 : UInt8) ∉ x ∧ (48 : UInt8) ∉ x := by
 intro x hx
 obtain ⟨t, ht, rfl⟩ := YY.1 hx
 obtain ⟨a1, a2, a3, a4, -⟩ := nj hn (hg t ht)
 exact ⟨a1, a2, a3, a4⟩
theorem dG (n : Nat) (o : List (Nat × Nat)) : (bo n o).length = o.length := by simp [bo]
theorem ux {n : Nat} (hn : n ≤ 4) {o : List (Nat × Nat)} (hg : Ts n o) : (Lib.join (bo n o) [124]).length ≤ 11 * o.length := by
 have h := jr 124 10 (bo n o) fun x hx => (KD hn hg x hx).2.1
 rw [dG] at h
 exact h
theorem yS {n : Nat} (hn : n ≤ 4) {o : List (Nat × Nat)} (hg : Ts n o) (ho : o.length ≤ 8) : (qP n o).length ≤ 100 := by
 have := ux hn hg
 unfold qP
 cases (o.length == 0) <;> simp <;> omega
def tl (l : List (Nat × Nat)) : List (Int × Int) := l.map fun p => ((p.1 : Int), (p.2 : Int))
theorem aR (l : List (Nat × Nat)) : (tl l).length = l.length := by simp [tl]
theorem hU (o : List (Nat × Nat)) (i : Nat) (h : i < o.length) : rd (0, 0) (tl o) (i : Int) = ((o[i].1 : Int), (o[i].2 : Int)) := by
 simp [rd, tl, List.getD_eq_getElem?_getD, abb h]
theorem sz5 : ∀ n : Nat, n ≤ 5 → 1 ≤ 2 ^ n ∧ 2 ^ n ≤ 32 := by decide +kernel
theorem AU : ∀ v : Nat, v < 32 → ∀ m : Nat, m < 32 → (bits .and .i64 (v : Int) (m : Int) == (v : Int)) = (v &&& m == v) := by decide +kernel
theorem cq (N n m v : Nat) (hn : n ≤ 5) (hm : m < 32) (hv : v < 32) (K : Bool → Option β) : oV N (n : Int) (m : Int) (v : Int) K = K (okT n m v) := by
 have hs := sz5 n hn
 unfold oV Um okT
 rw [eC, Yx (by omega : (0 : Int) ≤ (n : Int)), Yx (by omega : (n : Int) ≤ 5), aax, YC, ab rfl, aO n (by omega), bW (by omega) (by omega), eC, Yx (by omega : (0 : Int) ≤ (m : Int)), YI]
 by_cases h : m < 2 ^ n
 ·rw [Yx (by omega), Yx h, YC, eC, Yx (by omega : (0 : Int) ≤ (v : Int)), YI, AU v hv m hm, YI]
  cases hvm : (v &&& m == v) with
  | true =>
   have : v ≤ m := by rw [← eq_of_beq hvm]; exact aag
   rw [Yx (by omega)]; rfl
  | false => cases decide ((v : Int) ≤ (m : Int)) <;> rfl
 ·rw [YD (by omega), YD h]; rfl
theorem sx (N : Nat) (hN : 1048576 < N) (n : Nat) (hn : n ≤ 5) (o : List (Nat × Nat)) (ho : o.length ≤ 1000) (hg : ∀ t ∈ o, CM n t) (K : Bool → Option β) : nX N (n : Int) (tl o) K = K (decide ((o.length : Int) ≤ 40)) := by
 unfold nX Up
 refine bc (fun F i => tN N F (n : Int) (tl o) (i : Int) (fun e => K e) fun e0 e1 => mW N e0 0 5 fun r6 => cond r6 (K (decide ((e1.length : Int) ≤ 40))) (K false)) o.length _ (fun F i hi => ?_) (fun F => ?_) N 0 (by omega) (by omega)
 ·obtain ⟨h1, h2, h3⟩ := hg o[i] (YS hi)
  simp only [tN, UJ, Qn, aR, hU o i hi]
  rw [Yx (by omega : (i : Int) < (o.length : Int)), YC, ab (Yx (by omega)), ab rfl, cq N n _ _ hn h2 h3, h1, YP, YB, aB i (by omega)]
 ·simp only [tN, UJ, Qn, aR]
  rw [YD (by omega), YB, eC, Yx (by omega : (0 : Int) ≤ (n : Int)), Yx (by omega : (n : Int) ≤ 5)]
  rfl
theorem uy (sep y : List UInt8) : ∀ l : List (List UInt8), Lib.join (l ++ [y]) sep = if l = [] then y else Lib.join l sep ++ sep ++ y
 | [] => by rw [if_pos rfl, Zt, Lib.join_cons]; simp [Lib.joinTail]
 | x :: l => by
  rw [if_neg (by simp), aaO, Lib.join_cons, Lib.join_cons]
  simp [Lib.joinTail]
theorem Bd (m v : Nat) : ∀ i, (ft m v i).length ≤ 2 * i
 | 0 => YG _
 | i + 1 => by
  have := Bd m v i
  simp only [ft, YF]
  cases m.testBit i <;> cases v.testBit i <;> simp <;> omega
theorem Ix (w y : Nat) (hw : w < 32) : (bits .and .i64 (dr .i64 (w : Int) (y : Int)) 1 == 0) = !w.testBit y := by
 rw [fT w y (by omega)]
 cases w.testBit y <;> rfl
theorem nu : (((aj [97, 98, 99, 100, 101]).size : Nat) : Int) = 5 := by decide +kernel
theorem q8 : ∀ i, i < 5 → (aj [97, 98, 99, 100, 101]).extract i (i + 1) = B [UInt8.ofNat (97 + i)] := by decide +kernel
theorem cy (N : Nat) (hN : 1048576 < N) (n m v : Nat) (hn : n ≤ 5) (hm : m < 32) (hv : v < 32) (K : ByteArray → Option β) : te N (n : Int) (m : Int) (v : Int) K = K (B (ftb n m v)) := by
 unfold te Un ftb
 have he : (B ([] : List UInt8)).toList = [] := eM _
 cases hok : okT n m v with
 | false =>
  obtain ⟨G, rfl⟩ : ∃ G, N = G + 1 := ⟨N - 1, by omega⟩
  simp only [td, Qx, Lp]
  rw [cq _ n m v hn hm hv, hok, YB, beq_self_eq_true, YC, cq _ n m v hn hm hv, hok]
  rfl
 | true =>
  have main := bc (fun F i => td N F (n : Int) (B (ft m v i)) (i : Int) (m : Int) (v : Int) fun e0 e1 e2 e3 => cond (e1.toList == ByteArray.empty.toList) (oV N e0 e2 e3 fun r6 => cond r6 (K (aj [49])) (K e1)) (K e1)) n
   (K (B (cond (ft m v n == []) [49] (ft m v n)))) (fun F i hi => ?_) (fun F => ?_) N 0 (by omega) (by omega)
  ·exact main
  ·have hl := Bd m v i
   simp only [td, Qx, Lp]
   rw [cq N n m v hn hm hv, hok, YC, Yx (by omega : (i : Int) < (n : Int)), YC, ab (Yx (by omega)), Ix m i hm, Ix v i hv, aB i (by omega), nu, Zb, Zb, q8 i (by omega)]
   simp only [et, bX, be, Zh, ZK, ft]
   cases m.testBit i with
   | false => rw [Zx, YC, YB, YR]
   | true =>
    rw [YP, YB, ab (Yx (by omega)), YC]
    cases v.testBit i with
    | false =>
     rw [Zx, YC, ab (Yx (by simp; omega)), ab (Yx (by omega)), ab (Yx (by omega)), ab (Yx (by omega)), ab (Yx (by omega)), ab (Yx (by simp; omega)), YB]
     simp only [Zg]
     rfl
    | true =>
     rw [YP, YB, ab (Yx (by omega)), ab (Yx (by omega)), ab (Yx (by omega)), ab (Yx (by omega)), ab (Yx (by simp; omega)), YC]
  ·simp only [td, Qx, Lp]
   rw [cq N n m v hn hm hv, hok, YC, YD (by omega), YB, eM, show ByteArray.empty.toList = [] from he, cq N n m v hn hm hv, hok, YC]
   cases ft m v n == [] <;> rfl
theorem Jh {n : Nat} (hn : n ≤ 4) : ∀ {o : List (Nat × Nat)}, Ts n o → (Lib.join (bo n o) [124] = [] ↔ o = []) := by
 intro o
 cases o with
 | nil => exact fun _ => ⟨fun _ => rfl, fun _ => rfl⟩
 | cons t o =>
  intro hg
  have h := (nj hn (hg t YW)).1
  constructor
  ·intro e
   unfold bo at e
   rw [Zh, Lib.join_cons] at e
   rw [List.append_eq_nil_iff] at e
   rw [e.1] at h
   cases h
  ·intro e; cases e
theorem oP (N : Nat) (hN : 1048576 < N) (n : Nat) (hn : n ≤ 4) (o : List (Nat × Nat)) (ho : o.length ≤ 8) (hg : Ts n o) (K : ByteArray → Option β) : Hu N (n : Int) (tl o) K = K (B (qP n o)) := by
 unfold Hu Uq
 have hv := fun K => sx (β := β) N hN n (by omega) o (by omega) hg K
 rw [Yx (by omega : (o.length : Int) ≤ 40)] at hv
 refine bc (fun F i => tO N F (n : Int) (tl o) (B (Lib.join (bo n (o.take i)) [124])) (i : Int) fun e0 e1 e2 => cond (e2.toList == ByteArray.empty.toList) (nX N e0 e1 fun r7 => cond r7 (K (aj [48])) (K e2)) (K e2)) o.length _ (fun F i hi => ?_) (fun F => ?_) N 0 (by omega) (by omega)
 ·obtain ⟨g1, g2, g3⟩ := hg o[i] (YS hi)
  have hT : Ts n (o.take i) := fun t ht => hg t (Zy ht)
  have hl := ux hn hT
  rw [ZH] at hl
  obtain ⟨a1, a2, -⟩ := nj hn (hg o[i] (YS hi))
  have e : Lib.join (bo n (o.take (i + 1))) [124] = if bo n (o.take i) = [] then ftb n o[i].1 o[i].2 else Lib.join (bo n (o.take i)) [124] ++ [124] ++ ftb n o[i].1 o[i].2 := by
   rw [← uy]
   congr 1
   unfold bo
   rw [aaq, abb hi, Z0]
   rfl
  have hwl : (bo n (o.take i)).length = i := by rw [dG, ZH]; omega
  simp only [tO, UK, Qo, aR, hU o i hi]
  rw [Yx (by omega : (i : Int) < (o.length : Int)), YC, hv, YC, aB i (by omega), e]
  by_cases h0 : i = 0
  ·subst h0
   rw [if_pos (by exact List.length_eq_zero_iff.1 hwl), YD (by omega : ¬ ((0 : Nat) : Int) > 0), YB, ab (Yx (by omega)), ab rfl, cy N hN n _ _ (by omega) g2 g3, List.take_zero, show Lib.join (bo n []) [124] = [] from rfl, ab (Yx (by rw [be, be, Zi]; omega)), bX, Zt]
  ·rw [if_neg (by intro e; rw [e] at hwl; exact h0 hwl.symm), Yx (by omega : (i : Int) > 0), YC, show aj [124] = B [124] from et _, ab (Yx (by rw [be, be]; simp; omega)), ab (Yx (by omega)), ab rfl, cy N hN n _ _ (by omega) g2 g3, bX, ab (Yx (by rw [be, be, YF]; simp; omega)), bX]
 ·simp only [tO, UK, Qo, aR]
  rw [YD (by omega : ¬ (o.length : Int) < (o.length : Int)), YB, Z6, tQ, eM, eM, hv, YC]
  unfold qP
  have h := Jh hn hg
  cases o with
  | nil => rw [et]; rfl
  | cons t o =>
   have hne : Lib.join (bo n (t :: o)) [124] ≠ [] := fun e => by cases h.1 e
   rw [beq_eq_false_iff_ne.2 hne]
   rfl
def cm (p : Nat → Bool) : Nat → Bool
 | 0 => false
 | m + 1 => cm p m || p m
def imp (n w m v : Nat) : Bool := !cm (fun x => (x &&& m == v) && !w.testBit x) (2 ^ n) && cm (fun x => (x &&& m == v) && w.testBit x) (2 ^ n)
def off (m i : Nat) : Nat := m ^^^ (m &&& 2 ^ i)
def prm (n w m v : Nat) : Bool := imp n w m v && !cm (fun i => m.testBit i && imp n w (off m i) (off v i)) n
theorem fE : ∀ x : Nat, x < 32 → ∀ m : Nat, m < 32 → bits .and .i64 (x : Int) (m : Int) = ((x &&& m : Nat) : Int) := by decide +kernel
theorem lU (N : Nat) (hN : 1048576 < N) (n w m v : Nat) (hn : n ≤ 4) (hw : w < 2 ^ 63) (hm : m < 32) (K : Bool → Option β) : pz N (n : Int) (w : Int) (m : Int) (v : Int) K = K (imp n w m v) := by
 have hs : 2 ^ n ≤ 16 := (YE (by decide) hn : 2 ^ n ≤ 2 ^ 4)
 have hz0 : (0 : Int) ≤ ((2 ^ n : Nat) : Int) := Za _
 unfold pz KT fP Ev db CJ
 rw [ab (Yx (by omega)), aO n (by omega)]
 refine bc (fun F x => jb N F (m : Int) (v : Int) ((2 ^ n : Nat) : Int) (x : Int) (n : Int) (w : Int) (cm (fun x => (x &&& m == v) && !w.testBit x) x) (cm (fun x => (x &&& m == v) && w.testBit x) x) fun e7_0 e7_1 => cond e7_0 (cond e7_1 (K ((2 : Int) == 1)) (cond e7_1 (K ((1 : Int) == 1)) (K ((0 : Int) == 1)))) (cond e7_1 (K ((1 : Int) == 1)) (K ((0 : Int) == 1)))) (2 ^ n) _ (fun F x hx => ?_) (fun F => ?_) N 0 (by omega) (by omega)
 ·simp only [jb, ES, Au, eD, KW]
  rw [Yx (by omega : (x : Int) < ((2 ^ n : Nat) : Int)), YC, fE x (by omega) m hm, iO, ab (Yx (by omega)), fT w x (by omega), aB x (by omega)]
  simp only [cm]
  cases hc : (x &&& m == v) with
  | false => simp only [YB, YZ, aaj]
  | true =>
   cases hb : w.testBit x with
   | true => simp only [YC, if_true, YI, YP, aaj, Bool.or_true]; rfl
   | false => simp only [YC, Zs, if_false, YI, Zx, aaj, Bool.or_true]; rfl
 ·simp only [jb, ES, Au]
  rw [YD (by omega : ¬ ((2 ^ n : Nat) : Int) < ((2 ^ n : Nat) : Int)), YB]
  unfold imp
  cases cm (fun x => (x &&& m == v) && !w.testBit x) (2 ^ n) <;> cases cm (fun x => (x &&& m == v) && w.testBit x) (2 ^ n) <;> rfl
theorem JC : ∀ m : Nat, m < 32 → ∀ i : Nat, i < 5 → bits .andNot .i64 (m : Int) (bb .i64 1 (i : Int)) = (off m i : Int) ∧ off m i < 32 ∧ (bits .and .i64 (m : Int) (bb .i64 1 (i : Int)) != 0) = m.testBit i := by decide +kernel
theorem cW {p : Nat → Bool} : ∀ {m : Nat}, cm p m = true ↔ ∃ i, i < m ∧ p i = true
 | 0 => ⟨(fun h => by cases h), (fun ⟨j, h, _⟩ => by omega)⟩
 | m + 1 => by
  rw [cm, ZD, cW (m := m)]
  constructor
  ·rintro (⟨i, h1, h2⟩ | h)
   ·exact ⟨i, by omega, h2⟩
   ·exact ⟨m, by omega, h⟩
  ·rintro ⟨i, h1, h2⟩
   rcases YM i m with h | h
   ·exact Or.inl ⟨i, h, h2⟩
   ·have : i = m := by omega
    subst this
    exact Or.inr h2
theorem FY (N : Nat) (hN : 1048576 < N) (n w m v : Nat) (hn : n ≤ 4) (hw : w < 2 ^ 63) (hm : m < 32) (hv : v < 32) (K : Bool → Option β) : pA N (n : Int) (w : Int) (m : Int) (v : Int) K = K (prm n w m v) := by
 unfold pA KU prm
 rw [lU N hN n w m v hn hw hm]
 cases imp n w m v with
 | false => rfl
 | true =>
  rw [YP, YB, YI]
  have key : ∀ (d i F : Nat), n - i = d → i ≤ n → d < F → cm (fun i => m.testBit i && imp n w (off m i) (off v i)) i = false → l3 N F (n : Int) (i : Int) (n : Int) (w : Int) (m : Int) (v : Int) (fun e => K e) (K true) = K (!cm (fun i => m.testBit i && imp n w (off m i) (off v i)) n) := by
   intro d
   induction d with
   | zero =>
    intro i F hd hi hF ha
    obtain ⟨G, rfl⟩ : ∃ G, F = G + 1 := ⟨F - 1, by omega⟩
    simp only [l3, Lx, Ew]
    rw [YD (by omega), YB]
    have e : i = n := by omega
    subst e
    rw [ha]
    rfl
   | succ d ih =>
    intro i F hd hi hF ha
    obtain ⟨G, rfl⟩ : ∃ G, F = G + 1 := ⟨F - 1, by omega⟩
    obtain ⟨c1, c2, c3⟩ := JC m hm i (by omega)
    obtain ⟨c4, c5, -⟩ := JC v hv i (by omega)
    simp only [l3, Lx, Ew]
    rw [Yx (by omega : (i : Int) < (n : Int)), YC, ab (Yx (by omega)), c3, c1, c4, lU N hN n w _ _ hn hw c2, aB i (by omega)]
    have next := ih (i + 1) G (by omega) (by omega) (by omega)
    cases hb : m.testBit i with
    | false => exact next (by rw [cm, ha, hb]; rfl)
    | true =>
     cases hp : imp n w (off m i) (off v i) with
     | false => exact next (by rw [cm, ha, hb, hp]; rfl)
     | true =>
      have : cm (fun i => m.testBit i && imp n w (off m i) (off v i)) n = true := cW.2 ⟨i, by omega, by rw [hb, hp]; rfl⟩
      rw [this]
      rfl
  exact key n 0 N (by omega) (by omega) (by omega) rfl
def prr (n w m : Nat) : Nat → List (Nat × Nat)
 | 0 => []
 | v + 1 => prr n w m v ++ cond ((v &&& m == v) && prm n w m v) [(m, v)] []
def prl (n w : Nat) : Nat → List (Nat × Nat)
 | 0 => []
 | m + 1 => prl n w m ++ prr n w m (m + 1)
theorem DU (n w m : Nat) (t : Nat × Nat) : ∀ k, t ∈ prr n w m k ↔ ∃ v, v < k ∧ (v &&& m == v) = true ∧ prm n w m v = true ∧ t = (m, v)
 | 0 => ⟨(fun h => by cases h), (fun ⟨j, h, _⟩ => by omega)⟩
 | k + 1 => by
  rw [prr, Zl, DU n w m t k]
  constructor
  ·rintro (⟨v, h1, h2⟩ | h)
   ·exact ⟨v, by omega, h2⟩
   ·cases hc : ((k &&& m == k) && prm n w m k) with
    | false => rw [hc] at h; cases h
    | true =>
     rw [hc] at h
     rw [Yz] at hc
     exact ⟨k, by omega, hc.1, hc.2, ZG.1 h⟩
  ·rintro ⟨v, h1, h2, h3, h4⟩
   rcases YM v k with h | h
   ·exact Or.inl ⟨v, h, h2, h3, h4⟩
   ·have : v = k := by omega
    subst this
    refine Or.inr ?_
    rw [h2, h3]
    exact ZG.2 h4
theorem pV (n w : Nat) (t : Nat × Nat) : ∀ k, t ∈ prl n w k ↔ ∃ m, m < k ∧ ∃ v, v < m + 1 ∧ (v &&& m == v) = true ∧ prm n w m v = true ∧ t = (m, v)
 | 0 => ⟨(fun h => by cases h), (fun ⟨j, h, _⟩ => by omega)⟩
 | k + 1 => by
  rw [prl, Zl, pV n w t k, DU]
  constructor
  ·rintro (⟨v, h1, h2⟩ | h)
   ·exact ⟨v, by omega, h2⟩
   ·exact ⟨k, by omega, h⟩
  ·rintro ⟨v, h1, h2⟩
   rcases YM v k with h | h
   ·exact Or.inl ⟨v, h, h2⟩
   ·have : v = k := by omega
    subst this
    exact Or.inr h2
theorem jC (n w : Nat) (hn : n ≤ 4) : Ts n (prl n w (2 ^ n)) := by
 have hs : 2 ^ n ≤ 16 := (YE (by decide) hn : 2 ^ n ≤ 2 ^ 4)
 intro t ht
 obtain ⟨m, h1, v, h2, h3, h4, rfl⟩ := (pV n w t _).1 ht
 refine ⟨?_, by dsimp only; omega, by dsimp only; omega⟩
 unfold okT
 dsimp only
 rw [Yx h1, h3]
 rfl
theorem pW (n w m : Nat) : ∀ v, (prr n w m v).length ≤ v
 | 0 => YG _
 | v + 1 => by
  have := pW n w m v
  rw [prr, YF]
  cases ((v &&& m == v) && prm n w m v) <;> simp <;> omega
theorem eB (n w : Nat) : ∀ m, m ≤ 16 → (prl n w m).length ≤ 17 * m
 | 0, _ => YG _
 | m + 1, h => by
  have h1 := eB n w m (by omega)
  have h2 := pW n w m (m + 1)
  rw [prl, YF]
  omega
theorem SX : ∀ m : Nat, m < 32 → ∀ i : Nat, i < 5 → m.testBit i = true → off m i < m := by decide +kernel
theorem JD : ∀ i : Nat, i < 5 → ∀ m : Nat, m < 32 → ∀ v : Nat, v < 32 → (!(v &&& m == v) || (off v i &&& off m i == off v i)) = true := by decide +kernel
theorem N0 : ∀ i : Nat, i < 5 → ∀ m : Nat, m < 32 → ∀ x : Nat, x < 32 → x &&& off m i = off (x &&& m) i := by decide +kernel
theorem Sb (n w : Nat) (hn : n ≤ 4) : ∀ (k m v : Nat), m < k → m < 2 ^ n → (v &&& m == v) = true → imp n w m v = true → ∃ m' v', m' < 2 ^ n ∧ (v' &&& m' == v') = true ∧ prm n w m' v' = true ∧ ∀ x, x < 32 → x &&& m = v → x &&& m' = v' := by
 have hs : 2 ^ n ≤ 16 := (YE (by decide) hn : 2 ^ n ≤ 2 ^ 4)
 intro k
 induction k with
 | zero => intro m v h; omega
 | succ k ih =>
  intro m v hk hm hv hi
  cases ha : cm (fun i => m.testBit i && imp n w (off m i) (off v i)) n with
  | false => exact ⟨m, v, hm, hv, by unfold prm; rw [hi, ha]; rfl, fun x _ h => h⟩
  | true =>
   obtain ⟨i, h1, h2⟩ := cW.1 ha
   rw [Yz] at h2
   have h3 := SX m (by omega) i (by omega) h2.1
   have hvm : v ≤ m := by rw [← eq_of_beq hv]; exact aag
   have h4 := JD i (by omega) m (by omega) v (by omega)
   rw [hv, YP, Z3] at h4
   obtain ⟨m', v', g1, g2, g3, g4⟩ := ih (off m i) (off v i) (by omega) (by omega) h4 h2.2
   exact ⟨m', v', g1, g2, g3, fun x hx h => g4 x hx (by rw [N0 i (by omega) m (by omega) x hx, h])⟩
theorem vj (g : Nat → Bool) (i : Nat) (hi : i < 32) : bits .or .i64 (aZ g i : Int) (bb .i64 1 (i : Int)) = ((aZ g i ||| 2 ^ i : Nat) : Int) := by
 have hw : aZ g i < 2 ^ 63 := YJ (dO g i) (YE (by decide) (by omega))
 rw [aO i (by omega), bOr _ _ hw (ZJ (by decide) (by omega))]
theorem Ah {g : Nat → Bool} {i : Nat} (h : g i = true) : aZ g (i + 1) = aZ g i ||| 2 ^ i := by simp [aZ, h]
theorem En {g : Nat → Bool} {i : Nat} (h : g i = false) : aZ g (i + 1) = aZ g i := by simp [aZ, h]
theorem f8 (N : Nat) (hN : 1048576 < N) (n m v : Nat) (hn : n ≤ 5) (hm : m < 32) (K : Int → Option β) : jg N (n : Int) (m : Int) (v : Int) K = K (aZ (fun x => x &&& m == v) (2 ^ n) : Int) := by
 have hs := bZ hn
 have hz : (0 : Int) ≤ ((2 ^ n : Nat) : Int) := Za _
 unfold jg T8
 refine bc (fun F x => tH N F (n : Int) (aZ (fun x => x &&& m == v) x : Int) (x : Int) (m : Int) (v : Int) fun e => K e) (2 ^ n) _ (fun F x hx => ?_) (fun F => ?_) N 0 (by omega) (by omega)
 ·simp only [tH, Ux, Qc]
  rw [ab (Yx (by omega)), aO n (by omega), Yx (by omega : (x : Int) < ((2 ^ n : Nat) : Int)), YC, fE x (by omega) m hm, iO, ab (Yx (by omega)), aB x (by omega), vj _ x (by omega)]
  cases h : x &&& m == v with
  | true => rw [YC, Ah (g := fun x => x &&& m == v) h]
  | false => rw [YB, En (g := fun x => x &&& m == v) h]
 ·simp only [tH, Ux, Qc]
  rw [ab (Yx (by omega)), aO n (by omega), YD (by omega : ¬ ((2 ^ n : Nat) : Int) < ((2 ^ n : Nat) : Int)), YB]
theorem n0 : ∀ v : Nat, v < 32 → ∀ m : Nat, m < 32 → (bits .andNot .i64 (v : Int) (m : Int) == 0) = (v &&& m == v) := by decide +kernel
theorem lS (N n m v : Nat) (hn : n ≤ 5) (hm : m < 32) (hv : v < 32) (K : Bool → Option β) : zj5 N (n : Int) (m : Int) (v : Int) K = K (okT n m v) := by
 have hs := sz5 n hn
 unfold zj5 zb5 zj3 zb3 zj4 zb4 okT
 rw [Yx (by omega : (n : Int) ≥ 0), Yx (by omega : (n : Int) ≤ 5), YC]
 dsimp only
 rw [YC, Yx (by omega : (m : Int) ≥ 0), YC, ab rfl, aO n (by omega)]
 rw [Yx (by omega : (v : Int) ≥ 0), YC, n0 v hv m hm]
 by_cases h : m < 2 ^ n
 ·rw [Yx (by omega), Yx h, YC, YI]
 ·rw [YD (by omega), YD h]; rfl
theorem nl (N : Nat) (hN : 1048576 < N) (n m v : Nat) (hn : n ≤ 5) (hm : m < 32) (hv : v < 32) (K : ByteArray → Option β) : sT N (n : Int) (m : Int) (v : Int) K = K (B (ftb n m v)) := by
 unfold sT K7 ftb
 rw [lS N n m v hn hm hv]
 cases hok : okT n m v with
 | false => rfl
 | true =>
  rw [YP, YB]
  have main := bc (fun F i => l6 N F (n : Int) (i : Int) (m : Int) (v : Int) ((ft m v i).map fun b => (b.toNat : Int)) fun e => cond ((e.length : Int) == 0) (K (aj [49])) (K (aj e))) n
   (K (B (cond (ft m v n == []) [49] (ft m v n)))) (fun F i hi => ?_) (fun F => ?_) N 0 (by omega) (by omega)
  ·exact main
  ·have hl := Bd m v i
   have hw : w8 (97 + w8 (i : Int)) = ((97 + i : Nat) : Int) := by
    rw [jO i (by omega), show (97 : Int) + (i : Int) = ((97 + i : Nat) : Int) by omega, jO _ (by omega)]
   have hu : ((UInt8.ofNat (97 + i)).toNat : Int) = ((97 + i : Nat) : Int) := by
    rw [UInt8.toNat_ofNat']
    omega
   simp only [l6, LG, EG]
   rw [Yx (by omega : (i : Int) < (n : Int)), YC, ab (Yx (by omega)), Ix m i hm, Ix v i hv, aB i (by omega), hw]
   simp only [ft, Z0]
   cases m.testBit i with
   | false => rw [Zx, YC, YB, ZK, YR]
   | true =>
    rw [YP, YB, ab (Yx (by omega)), YC]
    cases v.testBit i with
    | false =>
     rw [Zx, YC, ab (Yx (by simp; omega)), ab (Yx (by simp; omega)), YB]
     simp only [Zh, ZK, hu, Zt, Zg]
     rfl
    | true =>
     rw [YP, YB, ab (Yx (by simp; omega)), YC]
     simp only [Zh, ZK, hu, Zt]
  ·simp only [l6, LG, EG]
   rw [YD (by omega), YB, et (List.map _ _), aaC]
   have : ((fun x : Int => UInt8.ofNat x.toNat) ∘ fun b : UInt8 => (b.toNat : Int)) = id := by
    funext b
    simp
   rw [this, List.map_id]
   cases hft : ft m v n with
   | nil => rfl
   | cons b l => rfl
theorem FZ (l : List (List UInt8)) (s : List UInt8) : ns (l.map B) (B s) = B (Lib.join l s) := by
 unfold ns B
 rw [aaC]
 have : ((fun x : ByteArray => x.data.toList) ∘ fun l : List UInt8 => (⟨l.toArray⟩ : ByteArray)) = id := by
  funext l
  simp
 rw [this]
 simp
theorem g8 (N : Nat) (hN : 1048576 < N) (n : Nat) (hn : n ≤ 5) (o : List (Nat × Nat)) (ho : o.length ≤ 1000) (hg : ∀ t ∈ o, t.1 < 32 ∧ t.2 < 32 ∧ (ftb n t.1 t.2).length ≤ 10) (c : UInt8) (K : ByteArray → Option β) : kY N (n : Int) (tl o) (B [c]) K = K (B (Lib.join (bo n o) [c])) := by
 unfold kY K8
 rw [ab (Yx (by omega)), ab (Yx (by omega)), aR, ab (Yx (by omega)), Zb]
 have key := bc (fun F i => l7 N F (n : Int) (B [c]) (tl o) (o.length : Int) (i : Int) (((bo n o).map B).take i ++ List.replicate (o.length - i) ByteArray.empty) fun e0 e1 => strings_Join N e1 e0 fun r6 => K r6) o.length (K (B (Lib.join (bo n o) [c]))) (fun F i hi => ?_) (fun F => ?_) N 0 (by omega) (by omega)
 ·simpa using key
 ·simp only [l7, LH, EH]
  obtain ⟨h1, h2, h3⟩ := hg o[i] (YS hi)
  have htk : (((bo n o).map B).take i).length = i := by rw [ZH, Zm, dG]; omega
  rw [Yx (by omega : (i : Int) < (o.length : Int)), YC, ab (Yx (by omega)), aR, ab (Yx (by omega)), hU o i hi, nl N hN n _ _ hn h1 h2, ab (Yx (by omega)), ab (Yx (by rw [YF, htk, List.length_replicate]; omega)), aB i (by omega), show o.length - i = (o.length - (i + 1)) + 1 by omega, aaB]
  have e := KG (((bo n o).map B).take i) ByteArray.empty (B (ftb n o[i].1 o[i].2)) (List.replicate (o.length - (i + 1)) ByteArray.empty)
  rw [htk] at e
  rw [e]
  have e2 : ((bo n o).map B).take (i + 1) = ((bo n o).map B).take i ++ [B (ftb n o[i].1 o[i].2)] := by
   rw [aaq, abe]
   simp [bo, abb hi]
  rw [e2]
  simp
 ·simp only [l7, LH, EH]
  rw [YD (by omega : ¬ (o.length : Int) < (o.length : Int)), YB, Z2, List.replicate_zero, YR, ZL (by rw [Zm, dG]; exact YG _)]
  unfold strings_Join
  have hb : ∀ x ∈ bo n o, x.length ≤ 10 := fun x hx => by
   obtain ⟨t, ht, rfl⟩ := YY.1 hx
   exact (hg t ht).2.2
  have hj := jr c 10 _ hb
  rw [dG] at hj
  rw [FZ, ab (Yx (by rw [Zm, dG]; omega)), ab (Yx (by rw [be]; omega))]
def msl (p : Nat → Bool) : Nat → List (Nat × Nat)
 | 0 => []
 | m + 1 => msl p m ++ (if p m then [(m, m)] else [])
def lJ (n : Nat) (p : Nat → Bool) (m : Nat) : List UInt8 := Lib.join (bo n (msl p m)) [43]
def par (w m : Nat) : Nat → Bool
 | 0 => false
 | x + 1 => xor (par w m x) ((x &&& m == x) && w.testBit x)
def dQ (w n : Nat) : Nat := aZ (fun m => par w m (2 ^ n)) (2 ^ n)
def qD (w n : Nat) : List UInt8 := cond (lJ n (dQ w n).testBit (2 ^ n) == []) [48] (lJ n (dQ w n).testBit (2 ^ n))
theorem AS (x m : Nat) (hx : x < 32) (hm : m < 32) : (bits .andNot .i64 (x : Int) (m : Int) == 0) = (x &&& m == x) := n0 x hx m hm
theorem KH : ∀ a b : Bool, bits .xor .i64 (a.toNat : Int) (b.toNat : Int) = ((xor a b).toNat : Int) := by decide
theorem Bh (N : Nat) (hN : 1048576 < N) (n w : Nat) (hn : n ≤ 5) (hw : w < 4294967296) (K : Int → Int → Option β) : sS N (n : Int) (w : Int) K = K (n : Int) (dQ w n : Int) := by
 have hs := bZ hn
 have hz : (0 : Int) ≤ ((2 ^ n : Nat) : Int) := Za _
 unfold sS K6
 rw [ez N (by omega) n hn _ (fun m => par w m (2 ^ n)) (fun m k hm => ?_)]
 ·rfl
 ·unfold iZ T2
  rw [cP N n _ hn]
  have main := bc (fun F x => tE N F (m : Int) (n : Int) (w : Int) ((par w m x).toNat : Int) ((2 ^ n : Nat) : Int) (x : Int) fun e => k (e == 1)) (2 ^ n) (k (par w m (2 ^ n))) (fun F x hx => by
   simp only [tE, Uv, P8]
   rw [Yx (by omega : (x : Int) < ((2 ^ n : Nat) : Int)), YC, AS x m (by omega) (by omega), cK N w x _ hw, aB x (by omega)]
   have e : (bw w x : Int) = ((w.testBit x).toNat : Int) := by unfold bw; cases w.testBit x <;> rfl
   rw [e, KH]
   simp only [par]
   cases x &&& m == x <;> simp) (fun F => by
   simp only [tE, Uv, P8]
   rw [YD (by omega), YB]
   cases par w m (2 ^ n) <;> rfl) N 0 (by omega) (by omega)
  exact main
theorem pS (p : Nat → Bool) : ∀ m, (msl p m).length ≤ m
 | 0 => YG _
 | m + 1 => by
  have := pS p m
  simp only [msl, YF]
  split <;> simp <;> omega
theorem lG (l : List (Nat × Nat)) (p : Nat × Nat) : tl (l ++ [p]) = tl l ++ [((p.1 : Int), (p.2 : Int))] := by simp [tl]
theorem pK : ∀ n, n ≤ 5 → ∀ m, m < 2 ^ n → (ftb n m m).length ≠ 0 ∧ (ftb n m m).length ≤ 5 := by decide +kernel
theorem tY (n : Nat) (p : Nat → Bool) (m : Nat) : lJ n p (m + 1) = if p m then (if msl p m = [] then ftb n m m else lJ n p m ++ [43] ++ ftb n m m) else lJ n p m := by
 unfold lJ
 cases hp : p m with
 | false => simp [msl, hp]
 | true =>
  simp only [msl, hp, if_true, bo, Z0, Zh, ZK]
  rw [uy]
  cases msl p m <;> simp
theorem m1 (n : Nat) (hn : n ≤ 5) (p : Nat → Bool) : ∀ m, m ≤ 2 ^ n → ((lJ n p m = []) ↔ msl p m = [])
 | 0, _ => by simp [lJ, msl, bo, Lib.join]
 | m + 1, h => by
  have ih := m1 n hn p m (by omega)
  have hf := pK n hn m (by omega)
  rw [tY]
  simp only [msl]
  cases hp : p m with
  | false => simpa using ih
  | true =>
   simp only [if_true]
   have : ftb n m m ≠ [] := fun e => hf.1 (by rw [e]; rfl)
   split <;> simp [this]
theorem wE (p : Nat → Bool) : ∀ m t, t ∈ msl p m → t.1 < m ∧ t.2 = t.1
 | 0, t, h => by simp [msl] at h
 | m + 1, t, h => by
  simp only [msl, Zl] at h
  rcases h with h | h
  ·have := wE p m t h; omega
  ·split at h
   ·simp only [ZG] at h; subst h; exact ⟨by simp, rfl⟩
   ·cases h
theorem oh (N : Nat) (hN : 1048576 < N) (n w : Nat) (hn : n ≤ 5) (hw : w < 2 ^ 2 ^ n) (K : ByteArray → Option β) : vD N (n : Int) (w : Int) K = K (B (qD w n)) := by
 have hs := bZ hn
 have hz : (0 : Int) ≤ ((2 ^ n : Nat) : Int) := Za _
 have hw' := pX hn hw
 have ha : dQ w n < 2 ^ 2 ^ n := dO _ _
 have ha' := pX hn ha
 unfold vD La
 rw [bH N _ _ (by omega), tt hn hw, YP, YB, Bh N hN n w hn hw', cP N n _ hn]
 refine bc (fun F m => l8 N F ((2 ^ n : Nat) : Int) (m : Int) (n : Int) (w : Int) (n : Int) (dQ w n : Int) (tl (msl (dQ w n).testBit m)) fun e0 e1 e2 => cond ((e2.length : Int) == 0) (K (aj [48])) (kY N e0 e2 (aj [43]) fun r9 => K r9)) (2 ^ n) _ (fun F m hm => ?_) (fun F => ?_) N 0 (by omega) (by omega)
 ·simp only [l8, LI, EI]
  have hl := pS (dQ w n).testBit m
  rw [Yx (by omega : (m : Int) < ((2 ^ n : Nat) : Int)), YC, cK N _ m _ ha', Iz, aB m (by omega)]
  simp only [msl]
  cases (dQ w n).testBit m with
  | false => simp
  | true =>
   rw [YC, ab (Yx (by simp [aR]; omega)), if_pos rfl, lG]
   rfl
 ·simp only [l8, LI, EI]
  have hl := pS (dQ w n).testBit (2 ^ n)
  rw [YD (by omega : ¬ ((2 ^ n : Nat) : Int) < ((2 ^ n : Nat) : Int)), YB, aR]
  unfold qD
  have hni := m1 n hn (dQ w n).testBit (2 ^ n) (YG _)
  by_cases h0 : msl (dQ w n).testBit (2 ^ n) = []
  ·rw [h0, hni.2 h0]; rfl
  ·have h1 : lJ n (dQ w n).testBit (2 ^ n) ≠ [] := fun e => h0 (hni.1 e)
   have h2 : 0 < (msl (dQ w n).testBit (2 ^ n)).length := List.length_pos_iff.2 h0
   rw [beq_eq_false_iff_ne.2 (by omega), YB, beq_eq_false_iff_ne.2 h1, YB]
   exact g8 N hN n hn _ (by omega) (fun t ht => by
    have := wE _ _ t ht
    have hf := pK n hn t.1 (by omega)
    rw [this.2]
    omega) 43 K
def lP (w m : Nat) : Nat → Nat
 | 0 => 0
 | x + 1 => lP w m x + if (x &&& m == x) && w.testBit x then 1 else 0
theorem yD (w m : Nat) : ∀ x, lP w m x ≤ x
 | 0 => YG _
 | x + 1 => by
  have := yD w m x
  simp only [lP]
  split <;> omega
theorem MP (x m : Nat) (hx : x < 32) (hm : m < 32) : (bits .and .i64 (x : Int) (m : Int) == (x : Int)) = (x &&& m == x) := AU x hx m hm
theorem Du (w m : Nat) : ∀ x, lP w m x % 2 = (par w m x).toNat
 | 0 => rfl
 | x + 1 => by
  have := Du w m x
  simp only [lP, par]
  generalize lP w m x = c at this ⊢
  generalize par w m x = p at this ⊢
  cases (x &&& m == x) && w.testBit x with
  | true => rw [if_pos rfl]; cases p <;> simp only [Bool.toNat_true, Bool.toNat_false, Bool.xor_true, YP, Zx] at this ⊢ <;> omega
  | false => rw [if_neg (by decide), Bool.xor_false]; exact this
theorem zz (w m : Nat) : ∀ d, par w m (m + 1 + d) = par w m (m + 1)
 | 0 => rfl
 | d + 1 => by
  rw [show m + 1 + (d + 1) = (m + 1 + d) + 1 by omega]
  simp only [par]
  have h : ((m + 1 + d) &&& m == m + 1 + d) = false := by
   rw [beq_eq_false_iff_ne]
   intro e
   have : (m + 1 + d) &&& m ≤ m := aag
   omega
  have := zz w m d
  simp only [par] at this
  rw [h, this]
  simp
theorem N6 (w m n : Nat) (h : m < 2 ^ n) : par w m (2 ^ n) = par w m (m + 1) := by
 rw [show 2 ^ n = m + 1 + (2 ^ n - (m + 1)) by omega, zz]
theorem tC (N : Nat) (hN : 1048576 < N) (n w : Nat) (hn : n ≤ 5) (hw : w < 4294967296) (K : Int → Option β) : CK N (n : Int) (w : Int) K = K (dQ w n : Int) := by
 have hs := bZ hn
 have hz : (0 : Int) ≤ ((2 ^ n : Nat) : Int) := Za _
 unfold CK Ul
 refine bc (fun F m => tc N F (aZ (fun m => par w m (2 ^ n)) m : Int) (m : Int) (n : Int) (w : Int) fun e => K e) (2 ^ n) _ (fun F m hm => ?_) (fun F => ?_) N 0 (by omega) (by omega)
 ·simp only [tc, UH, Ql]
  rw [ab (Yx (by omega)), aO n (by omega), Yx (by omega : (m : Int) < ((2 ^ n : Nat) : Int)), YC]
  have inner := fun (k0 : Int → Int → Int → Int → Int → Option β) (v0 : Int) => bc (fun F x => s6 N F v0 (m : Int) (lP w m x : Int) (x : Int) (n : Int) (w : Int) k0) (m + 1) (k0 v0 (m : Int) (lP w m (m + 1) : Int) (n : Int) (w : Int)) (fun F x hx => by
   simp only [s6, UG, Qk]
   have hc := yD w m x
   rw [Yx (by omega : (x : Int) ≤ (m : Int)), YC, MP x m (by omega) (by omega), aB x (by omega), Iy w x (by omega)]
   simp only [lP]
   cases x &&& m == x with
   | false => simp
   | true =>
    rw [YC, ab (Yx (by omega)), YI, bW (by have := Q2 w x; omega) (by have := Q2 w x; omega)]
    unfold bw
    cases w.testBit x <;> rfl) (fun F => by
   simp only [s6, UG, Qk]
   rw [YD (by omega), YB]) N 0 (by omega) (by omega)
  refine (inner _ _).trans ?_
  have hc := Du w m (m + 1)
  rw [← N6 w m n hm] at hc
  have hrem : tA (lP w m (m + 1) : Int) 2 = ((par w m (2 ^ n)).toNat : Int) := by
   rw [← hc]; rfl
  rw [hrem, ab (Yx (by omega)), aB m (by omega)]
  have hb : aZ (fun m => par w m (2 ^ n)) m < 2 ^ 63 := YJ (dO _ m) (YE (by decide) (by omega))
  cases hp : par w m (2 ^ n) with
  | true =>
   rw [Ah (g := fun m => par w m (2 ^ n)) hp]
   have e1 : ((true.toNat : Nat) : Int) = 1 := rfl
   rw [e1, vj _ m (by omega)]
  | false =>
   rw [En (g := fun m => par w m (2 ^ n)) hp]
   have h0 : bb .i64 ((false.toNat : Nat) : Int) (m : Int) = ((0 : Nat) : Int) := by
    have := Ed 0 m (by omega) (by omega)
    rw [aau] at this
    exact this
   rw [h0, bOr _ _ hb (by decide), Nat.or_zero]
 ·simp only [tc, UH, Ql]
  rw [ab (Yx (by omega)), aO n (by omega), YD (by omega : ¬ ((2 ^ n : Nat) : Int) < ((2 ^ n : Nat) : Int)), YB]
  rfl
theorem yw (n : Nat) (hn : n ≤ 5) (p : Nat → Bool) (m : Nat) (hm : m ≤ 2 ^ n) : (lJ n p m).length ≤ 200 := by
 have hs := bZ hn
 have h1 := pS p m
 have h2 : ∀ x ∈ bo n (msl p m), x.length ≤ 5 := fun x hx => by
  obtain ⟨t, ht, rfl⟩ := YY.1 hx
  have := wE p m t ht
  rw [this.2]
  exact (pK n hn t.1 (by omega)).2
 have := jr 43 5 _ h2
 rw [bo, Zm] at this
 unfold lJ bo
 omega
theorem oO (N : Nat) (hN : 1048576 < N) (n w : Nat) (hn : n ≤ 5) (hw : w < 2 ^ 2 ^ n) (K : ByteArray → Option β) : Ht N (n : Int) (w : Int) K = K (B (qD w n)) := by
 have hs := bZ hn
 have hz : (0 : Int) ≤ ((2 ^ n : Nat) : Int) := Za _
 have hw' := pX hn hw
 have ha : dQ w n < 2 ^ 2 ^ n := dO _ _
 have ha' := pX hn ha
 have he : ByteArray.empty.toList = ([] : List UInt8) := eM []
 unfold Ht Uo
 rw [bm, tt hn hw, YP, YB, tC N hN n w hn hw']
 refine bc (fun F m => tM N F (B (lJ n (dQ w n).testBit m)) (dQ w n : Int) (m : Int) (n : Int) (w : Int) fun e => cond (e.toList == ByteArray.empty.toList) (K (aj [48])) (K e)) (2 ^ n) _ (fun F m hm => ?_) (fun F => ?_) N 0 (by omega) (by omega)
 ·simp only [tM, UI, Qm]
  have hl := yw n hn (dQ w n).testBit m (by omega)
  have hf := pK n hn m hm
  have hbit : (bits .and .i64 (dr .i64 (dQ w n : Int) (m : Int)) 1 == 0) = !(dQ w n).testBit m := by
   rw [Iy _ m (by omega), R8]
  rw [ab (Yx (by omega)), aO n (by omega), Yx (by omega : (m : Int) < ((2 ^ n : Nat) : Int)), YC, ab (Yx (by omega)), hbit, aB m (by omega), tY, eM, he, show aj [43] = B [43] from rfl, bX]
  cases hp : (dQ w n).testBit m with
  | false => rfl
  | true =>
   simp only [YP, YB, if_true]
   cases hm0 : lJ n (dQ w n).testBit m == [] with
   | true =>
    have h0 := eq_of_beq hm0
    rw [YP, YB, cy N hN n m m hn (by omega) (by omega), bX, be, be, ab (Yx (by omega)), if_pos ((m1 n hn _ m (by omega)).1 h0), h0]
    rfl
   | false =>
    have h0 : lJ n (dQ w n).testBit m ≠ [] := by intro e; rw [e] at hm0; cases hm0
    rw [Zx, YC, be, be, ab (Yx (by simp; omega)), cy N hN n m m hn (by omega) (by omega), bX, be, be, ab (Yx (by simp; omega)), if_neg fun e => h0 ((m1 n hn _ m (by omega)).2 e)]
 ·simp only [tM, UI, Qm]
  rw [ab (Yx (by omega)), aO n (by omega), YD (by omega : ¬ ((2 ^ n : Nat) : Int) < ((2 ^ n : Nat) : Int)), YB, eM, he]
  unfold qD
  cases lJ n (dQ w n).testBit (2 ^ n) == [] <;> rfl
def cO (p : Nat → Bool) : Nat → Nat → Nat
 | 0, i => i
 | d + 1, i => if p i then i else cO p d (i + 1)
def sc (w m v : Nat) (b : Bool) : Nat → Bool
 | 0 => false
 | x + 1 => sc w m v b x || (x &&& m == v && w.testBit x == b)
def cx (w n m v : Nat) : Bool := sc w m v false (2 ^ n) && sc w m v true (2 ^ n)
def bh (m i : Nat) : Bool := !m.testBit i
def mnO (B : Nat) (bh : Nat → Bool) (val : Nat → Nat) : Nat → Nat
 | 0 => B
 | i + 1 => if bh i then min (mnO B bh val i) (val i) else mnO B bh val i
def ld (w n : Nat) : Nat → Nat → Nat → Nat
 | 0, _, _ => 0
 | f + 1, m, v => if cx w n m v then mnO 10 (bh m) (fun i => 1 + max (ld w n f (m ||| 2 ^ i) v) (ld w n f (m ||| 2 ^ i) (v ||| 2 ^ i))) n else 0
def fc (n m : Nat) : Nat := cnt (bh m) n
def a7 (w n m v : Nat) : Nat := ld w n (fc n m + 1) m v
def pick (w n m v i : Nat) : Bool := bh m i && (1 + max (a7 w n (m ||| 2 ^ i) v) (a7 w n (m ||| 2 ^ i) (v ||| 2 ^ i)) == a7 w n m v)
def bst (w n : Nat) : Nat → Nat → Nat → List UInt8
 | 0, _, _ => []
 | f + 1, m, v => if cx w n m v then
   UInt8.ofNat (97 + cO (pick w n m v) n 0) :: (bst w n f (m ||| 2 ^ cO (pick w n m v) n 0) v ++ bst w n f (m ||| 2 ^ cO (pick w n m v) n 0) (v ||| 2 ^ cO (pick w n m v) n 0))
  else [if sc w m v true (2 ^ n) then 49 else 48]
def ji (N : Nat) (a0 a1 : Int) : List UInt8 := if cU a0 a1 4 then bst a1.toNat a0.toNat N 0 0 else []
theorem jo (n m : Nat) : fc n m ≤ n := ID _ n
def dP (w n : Nat) (mp : Mp) : Prop := ∀ m v : Nat, iJ ⟨true, false⟩ mp (m : Int) (v : Int) = true → eU ⟨true, false⟩ mp (m : Int) (v : Int) = (a7 w n m v : Int)
theorem Aa {n : Nat} (h : n ≤ 4) : 2 ^ n ≤ 16 := Zd (YE (by decide) h) (by decide)
theorem nm (N : Nat) (hN : 64 < N) (n w m v : Nat) (hn : n ≤ 5) (hw : w < 4294967296) (hm : m < 4294967296) (k : Int → Option β) :
  fP N (n : Int) (w : Int) (m : Int) (v : Int) k = k (cond (sc w m v false (2 ^ n)) (cond (sc w m v true (2 ^ n)) 2 0) (cond (sc w m v true (2 ^ n)) 1 0)) := by
 have hs := bZ hn
 unfold fP Ev db CJ
 rw [ab (Yx (by omega : (0 : Int) ≤ (n : Int))), aO n (by omega)]
 have key : ∀ (K : Bool → Bool → Option β) (F x : Nat), 2 ^ n - x < F → x ≤ 2 ^ n →
   jb N F (m : Int) (v : Int) ((2 ^ n : Nat) : Int) (x : Int) (n : Int) (w : Int) (sc w m v false x) (sc w m v true x) K = K (sc w m v false (2 ^ n)) (sc w m v true (2 ^ n)) := by
  intro K F
  induction F with
  | zero => intro x h; omega
  | succ F ih =>
   intro x hF hx
   simp only [jb, ES, Au, eD, KW]
   by_cases hlt : x < 2 ^ n
   ·rw [Yx (by omega : (x : Int) < ((2 ^ n : Nat) : Int)), YC, bAnd x m (by omega) (by omega), fT w x (by omega), aB x (by omega), ab (Yx (by omega : (0 : Int) ≤ (x : Int)))]
    have e0 : (((x &&& m : Nat) : Int) == (v : Int)) = (x &&& m == v) := by
     rw [ZZ, beq_iff_eq, beq_iff_eq]
     omega
    rw [e0]
    have ih' := ih (x + 1) (by omega) (by omega)
    have s0 : ∀ b, sc w m v b (x + 1) = (sc w m v b x || (x &&& m == v && w.testBit x == b)) := fun _ => rfl
    rw [s0, s0] at ih'
    cases hv : (x &&& m == v) with
    | false =>
     rw [hv] at ih'
     simp only [YZ, aaj] at ih'
     exact ih'
    | true =>
     rw [hv] at ih'
     simp only [YI] at ih'
     cases hb : w.testBit x with
     | false =>
      rw [hb] at ih'
      simpa [gd] using ih'
     | true =>
      rw [hb] at ih'
      simpa [gd] using ih'
   ·rw [YD (by omega : ¬ (x : Int) < ((2 ^ n : Nat) : Int)), YB, show x = 2 ^ n by omega]
 have := key (fun e7_0 e7_1 => cond e7_0 (cond e7_1 (k 2) (cond e7_1 (k 1) (k 0))) (cond e7_1 (k 1) (k 0))) N 0 (by omega) (YV _)
 simp only [sc, aaw] at this
 refine this.trans ?_
 cases sc w m v false (2 ^ n) <;> cases sc w m v true (2 ^ n) <;> rfl
theorem oq {B : Nat} {bh : Nat → Bool} {val val' : Nat → Nat} : ∀ {n : Nat}, (∀ i, i < n → bh i = true → val i = val' i) → mnO B bh val n = mnO B bh val' n
 | 0, _ => rfl
 | n + 1, h => by
  simp only [mnO]
  rw [oq fun i hi hf => h i (by omega) hf]
  cases hf : bh n with
  | true => rw [h n (by omega) hf]
  | false => rfl
theorem fI : ∀ n, n ≤ 4 → ∀ m, m < 2 ^ n → ∀ i, i < n → bh m i = true → fc n (m ||| 2 ^ i) + 1 = fc n m := by decide +kernel
theorem d0 : ∀ n, n ≤ 4 → ∀ m, m < 2 ^ n → ∀ i, i < n → m ||| 2 ^ i < 2 ^ n := by decide +kernel
theorem pQ (w n : Nat) (hn : n ≤ 4) : ∀ f m v, m < 2 ^ n → fc n m < f → ld w n f m v = a7 w n m v
 | 0, m, v, _, h => by omega
 | f + 1, m, v, hm, h => by
  simp only [a7, ld]
  cases hx : cx w n m v with
  | false => rfl
  | true =>
   rw [if_pos rfl, if_pos rfl]
   refine oq fun i hi hf => ?_
   have h4 := fI n hn m hm i hi hf
   have hlt := d0 n hn m hm i hi
   rw [pQ w n hn f _ v hlt (by omega), pQ w n hn f _ _ hlt (by omega)]
   unfold a7
   rw [h4]
theorem qA (w n m v : Nat) (hn : n ≤ 4) (hm : m < 2 ^ n) : a7 w n m v = if cx w n m v then mnO 10 (bh m) (fun i => 1 + max (a7 w n (m ||| 2 ^ i) v) (a7 w n (m ||| 2 ^ i) (v ||| 2 ^ i))) n else 0 := by
 have : a7 w n m v = ld w n (fc n m + 1) m v := rfl
 rw [this]
 simp only [ld]
 cases hx : cx w n m v with
 | false => rfl
 | true =>
  rw [if_pos rfl, if_pos rfl]
  refine oq fun i hi hf => ?_
  have h4 := fI n hn m hm i hi hf
  have hlt := d0 n hn m hm i hi
  rw [pQ w n hn _ _ v hlt (by omega), pQ w n hn _ _ _ hlt (by omega)]
theorem iB (p : Int × Int) (a b : Int) : eqK ⟨true, false⟩ p a b = (p.1 == a && p.2 == b) := by simp [eqK]
theorem M8 (mp : Mp) (a b x c d : Int) : eU ⟨true, false⟩ (jD ⟨true, false⟩ mp a b x) c d = if (a == c && b == d) then x else eU ⟨true, false⟩ mp c d := by
 induction mp with
 | nil =>
  simp only [jD, eU, iB]
  cases (a == c && b == d) <;> rfl
 | cons p l ih =>
  simp only [jD]
  cases he : eqK ⟨true, false⟩ p.1 a b with
  | true =>
   rw [YC]
   simp only [eU]
   rw [iB] at he ⊢
   simp only [Yz, beq_iff_eq] at he
   rw [iB, he.1, he.2]
   cases (a == c && b == d) <;> simp
  | false =>
   rw [YB]
   simp only [eU, ih]
   cases hp : eqK ⟨true, false⟩ p.1 c d with
   | false => rfl
   | true =>
    rw [YC]
    cases hc : (a == c && b == d) with
    | false => rfl
    | true =>
     exfalso
     rw [iB] at hp he
     simp only [Yz, beq_iff_eq] at hp hc
     rw [hp.1, hp.2, hc.1, hc.2] at he
     simp at he
theorem M9 (mp : Mp) (a b x c d : Int) : iJ ⟨true, false⟩ (jD ⟨true, false⟩ mp a b x) c d = ((a == c && b == d) || iJ ⟨true, false⟩ mp c d) := by
 induction mp with
 | nil => simp [jD, iJ, iB]
 | cons p l ih =>
  simp only [jD]
  cases he : eqK ⟨true, false⟩ p.1 a b with
  | true =>
   rw [YC]
   simp only [iJ]
   rw [iB] at he ⊢
   simp only [Yz, beq_iff_eq] at he
   rw [iB, he.1, he.2]
   cases (a == c && b == d) <;> simp
  | false =>
   rw [YB]
   simp only [iJ, ih]
   rw [Bool.or_left_comm]
theorem dP.put {w n : Nat} {mp : Mp} (h : dP w n mp) (m v : Nat) {x : Int} (hx : x = (a7 w n m v : Int)) : dP w n (jD ⟨true, false⟩ mp (m : Int) (v : Int) x) := by
 intro m' v' hh
 rw [M8]
 rw [M9] at hh
 cases he : (((m : Int) == (m' : Int)) && ((v : Int) == (v' : Int))) with
 | true =>
  rw [if_pos rfl, hx]
  simp only [Yz, beq_iff_eq] at he
  rw [show m = m' by omega, show v = v' by omega]
 | false =>
  rw [he, Z3] at hh
  rw [if_neg (by decide)]
  exact h m' v' hh
theorem M2 : ∀ n, n ≤ 4 → ∀ m, m < 2 ^ n → fc n m ≠ 0 → ∃ i, i < n ∧ bh m i = true := by
 intro n hn m hm h
 have key : ∀ k, cnt (bh m) k ≠ 0 → ∃ i, i < k ∧ bh m i = true := by
  intro k
  induction k with
  | zero => intro h; exact absurd rfl h
  | succ k ih =>
   intro h
   cases hf : bh m k with
   | true => exact ⟨k, by omega, hf⟩
   | false =>
    simp only [cnt, hf] at h
    obtain ⟨i, hi, hfi⟩ := ih (by simpa using h)
    exact ⟨i, by omega, hfi⟩
 exact key n h
theorem BN (w m v : Nat) (b : Bool) : ∀ X, sc w m v b X = true ↔ ∃ x, x < X ∧ x &&& m = v ∧ w.testBit x = b
 | 0 => by simp [sc]
 | X + 1 => by
  simp only [sc, ZD, Yz, beq_iff_eq, BN w m v b X]
  constructor
  ·rintro (⟨x, h1, h2⟩ | h)
   ·exact ⟨x, by omega, h2⟩
   ·exact ⟨X, by omega, h⟩
  ·rintro ⟨x, h1, h2⟩
   by_cases e : x = X
   ·subst e; exact .inr h2
   ·exact .inl ⟨x, by omega, h2⟩
theorem DA : ∀ n, n ≤ 4 → ∀ m, m < 2 ^ n → fc n m = 0 → ∀ x, x < 2 ^ n → x &&& m = x := by decide +kernel
theorem A0 (w n m v : Nat) (hn : n ≤ 4) (hm : m < 2 ^ n) (h : cx w n m v = true) : fc n m ≠ 0 := by
 intro h0
 unfold cx at h
 simp only [Yz, BN] at h
 obtain ⟨⟨x, hx, hxv, hbx⟩, y, hy, hyv, hby⟩ := h
 rw [DA n hn m hm h0 x hx] at hxv
 rw [DA n hn m hm h0 y hy] at hyv
 rw [hxv] at hbx
 rw [hyv, hbx] at hby
 cases hby
theorem Bn (B : Nat) (bh : Nat → Bool) (val : Nat → Nat) : ∀ n i, i < n → bh i = true → mnO B bh val n ≤ val i
 | n + 1, i, h, hf => by
  simp only [mnO]
  by_cases e : i = n
  ·subst e
   rw [hf, if_pos rfl]
   exact Nat.min_le_right _ _
  ·have := Bn B bh val n i (by omega) hf
   split <;> omega
theorem Jo (w n : Nat) (hn : n ≤ 4) : ∀ f m v, m < 2 ^ n → ld w n f m v ≤ fc n m
 | 0, m, v, _ => YV _
 | f + 1, m, v, hm => by
  simp only [ld]
  cases hx : cx w n m v with
  | false => rw [if_neg (by decide)]; exact YV _
  | true =>
   rw [if_pos rfl]
   obtain ⟨i, hi, hf⟩ := M2 n hn m hm (A0 w n m v hn hm hx)
   have h1 := Bn 10 (bh m) (fun i => 1 + max (ld w n f (m ||| 2 ^ i) v) (ld w n f (m ||| 2 ^ i) (v ||| 2 ^ i))) n i hi hf
   have h2 := Jo w n hn f (m ||| 2 ^ i) v (d0 n hn m hm i hi)
   have h3 := Jo w n hn f (m ||| 2 ^ i) (v ||| 2 ^ i) (d0 n hn m hm i hi)
   have h4 := fI n hn m hm i hi hf
   have h1 : mnO 10 (bh m) (fun i => 1 + max (ld w n f (m ||| 2 ^ i) v) (ld w n f (m ||| 2 ^ i) (v ||| 2 ^ i))) n ≤ 1 + max (ld w n f (m ||| 2 ^ i) v) (ld w n f (m ||| 2 ^ i) (v ||| 2 ^ i)) := h1
   omega
theorem jm (w n m v : Nat) (hn : n ≤ 4) (hm : m < 2 ^ n) : a7 w n m v ≤ fc n m := Jo w n hn _ m v hm
theorem zY (i : Nat) : bb .i64 0 (i : Int) = 0 := by
 unfold bb
 rw [Int.zero_mul]
 decide
theorem pe (v : Nat) (hv : v < 16) : bits .or .i64 (v : Int) 0 = (v : Int) := by
 have := bOr v 0 (by omega) (by omega)
 simpa using this
theorem wF (a b : Nat) : mxI (a : Int) (b : Int) = ((max a b : Nat) : Int) := by unfold mxI; split <;> omega
theorem DN (a b : Nat) : mnI (a : Int) (b : Int) = ((min a b : Nat) : Int) := by unfold mnI; split <;> omega
theorem uF (B C : Nat) (hBC : B ≤ C) (bh : Nat → Bool) (val : Nat → Nat) : ∀ n, mnO B bh val n = min B (mnO C bh val n)
 | 0 => by simp only [mnO]; omega
 | n + 1 => by
  have := uF B C hBC bh val n
  simp only [mnO]
  split <;> omega
theorem zb (N : Nat) (hN : 64 < N) (n w : Nat) (hn : n ≤ 4) (hw : w < 2 ^ 2 ^ n) : ∀ (F m v : Nat) (mp mp5 : Mp), fc n m < F → m < 2 ^ n → v < 2 ^ n → dP w n mp →
  ∃ mp', dP w n mp' ∧ ∀ k0 : Int → Int → Int → Mp → Mp → Option β, fQ N F (m : Int) (v : Int) (n : Int) (w : Int) mp mp5 k0 = k0 (a7 w n m v : Int) n w mp' mp5 := by
 have hs := Aa hn
 have hw' := Ao (by omega) hw
 intro F
 induction F with
 | zero => intro m v mp mp5 h; omega
 | succ F ih =>
  intro m v mp mp5 hF hm hv hM
  simp only [fQ, Rl, K2]
  cases hh : iJ ⟨true, false⟩ mp (m : Int) (v : Int) with
  | true => exact ⟨mp, hM, fun k0 => by rw [YC, hM m v hh]⟩
  | false =>
   simp only [YB, nm N hN n w m v (by omega) hw' (by omega)]
   have e : ((cond (sc w m v false (2 ^ n)) (cond (sc w m v true (2 ^ n)) (2 : Int) 0) (cond (sc w m v true (2 ^ n)) 1 0)) == 2) = cx w n m v := by
    unfold cx
    cases sc w m v false (2 ^ n) <;> cases sc w m v true (2 ^ n) <;> rfl
   rw [e]
   have hde := qA w n m v hn hm
   cases hx : cx w n m v with
   | false =>
    rw [hx, if_neg (by decide)] at hde
    exact ⟨_, hM.put m v (x := 0) (by rw [hde]; rfl), fun k0 => by rw [YB, hde]; rfl⟩
   | true =>
    rw [hx, if_pos rfl] at hde
    simp only [YC]
    generalize hval : (fun i => 1 + max (a7 w n (m ||| 2 ^ i) v) (a7 w n (m ||| 2 ^ i) (v ||| 2 ^ i))) = val at hde
    have hvi : ∀ i, 1 + max (a7 w n (m ||| 2 ^ i) v) (a7 w n (m ||| 2 ^ i) (v ||| 2 ^ i)) = val i := fun i => by rw [← hval]
    have key : ∀ (d G i : Nat) (mp : Mp), i + d = n → d < G → dP w n mp → ∃ mp', dP w n mp' ∧ ∀ K : Int → Int → Int → Mp → Mp → Int → Int → Option β,
      kX N (fQ N F) G (mnO n (bh m) val i : Int) (n : Int) (i : Int) (n : Int) (w : Int) mp mp5 (m : Int) (v : Int) K = K (mnO n (bh m) val n : Int) n w mp' mp5 m v := by
     intro d
     induction d with
     | zero =>
      intro G i mp hi hG hM
      obtain ⟨G, rfl⟩ : ∃ H, G = H + 1 := ⟨G - 1, by omega⟩
      refine ⟨mp, hM, fun K => ?_⟩
      simp only [kX, ET, Av]
      rw [YD (by omega : ¬ (i : Int) < (n : Int)), YB, show i = n by omega]
     | succ d ihd =>
      intro G i mp hi hG hM
      obtain ⟨G, rfl⟩ : ∃ H, G = H + 1 := ⟨G - 1, by omega⟩
      have hlt : i < n := by omega
      have hp : 2 ^ i < 2 ^ 4 := ZJ (by decide) (by omega)
      have eb : ((((if m.testBit i then 1 else 0 : Nat) : Int)) == 0) = bh m i := by
       unfold bh
       cases m.testBit i <;> rfl
      cases hf : bh m i with
      | false =>
       obtain ⟨mp', hM', he⟩ := ihd G (i + 1) mp (by omega) (by omega) hM
       refine ⟨mp', hM', fun K => ?_⟩
       simp only [kX, ET, Av]
       rw [Yx (by omega : (i : Int) < (n : Int)), YC, ab (Yx (by omega : (0 : Int) ≤ (i : Int))), fT m i (by omega), eb, hf, YB, aB i (by omega)]
       have h1 := he K
       simp only [mnO, hf] at h1
       exact h1
      | true =>
       have h4 := fI n hn m hm i hlt hf
       have hmo := d0 n hn m hm i hlt
       have hvo := d0 n hn v hv i hlt
       obtain ⟨mp1, hM1, he1⟩ := ih (m ||| 2 ^ i) v mp mp5 (by omega) hmo hv hM
       obtain ⟨mp2, hM2, he2⟩ := ih (m ||| 2 ^ i) (v ||| 2 ^ i) mp1 mp5 (by omega) hmo hvo hM1
       obtain ⟨mp', hM', he⟩ := ihd G (i + 1) mp2 (by omega) (by omega) hM2
       refine ⟨mp', hM', fun K => ?_⟩
       have hd1 := jm w n (m ||| 2 ^ i) v hn hmo
       have hd2 := jm w n (m ||| 2 ^ i) (v ||| 2 ^ i) hn hmo
       have hfc := jo n (m ||| 2 ^ i)
       simp only [kX, ET, Av, er, EF]
       rw [Yx (by omega : (i : Int) < (n : Int)), YC, ab (Yx (by omega : (0 : Int) ≤ (i : Int))), fT m i (by omega), eb, hf, YC, aB i (by omega)]
       simp only [ab (Yx (by omega : (0 : Int) ≤ (i : Int)))]
       rw [zY, aO i (by omega), pe v (by omega), bOr m _ (by omega) (by omega), bOr v _ (by omega) (by omega), he1]
       rw [he2]
       rw [wF, show (1 : Int) + ((max (a7 w n (m ||| 2 ^ i) v) (a7 w n (m ||| 2 ^ i) (v ||| 2 ^ i)) : Nat) : Int) = ((1 + max (a7 w n (m ||| 2 ^ i) v) (a7 w n (m ||| 2 ^ i) (v ||| 2 ^ i)) : Nat) : Int) by omega, xt _ (by omega), DN, hvi]
       have h1 := he K
       simp only [mnO, hf, if_true] at h1
       exact h1
    obtain ⟨mp', hM', he⟩ := key n N 0 mp (by omega) (by omega) hM
    have hle := jm w n m v hn hm
    have hfc := jo n m
    have hst := uF n 10 (by omega) (bh m) val n
    have heq : mnO n (bh m) val n = a7 w n m v := by
     rw [hst, ← hde]
     omega
    rw [heq] at he
    refine ⟨_, hM'.put m v (x := (a7 w n m v : Int)) rfl, fun k0 => ?_⟩
    have h1 := he (fun e12_0 e12_1 e12_2 e12_3 e12_4 e12_5 e12_6 => k0 e12_0 e12_1 e12_2 (jD ⟨true, false⟩ e12_3 e12_5 e12_6 e12_0) e12_4)
    simp only [mnO, aaw] at h1
    exact h1
theorem iK (N : Nat) (hN : 64 < N) (n w : Nat) (hn : n ≤ 4) (hw : w < 2 ^ 2 ^ n) (m v : Nat) (mp mp5 : Mp) (hm : m < 2 ^ n) (hv : v < 2 ^ n) (hM : dP w n mp) :
  ∃ mp', dP w n mp' ∧ ∀ k0 : Int → Int → Int → Mp → Mp → Option β, LF N (m : Int) (v : Int) (n : Int) (w : Int) mp mp5 k0 = k0 (a7 w n m v : Int) n w mp' mp5 := by
 have := jo n m
 exact zb N hN n w hn hw N m v mp mp5 (by omega) hm hv hM
theorem ot (B : Nat) (bh : Nat → Bool) (val : Nat → Nat) : ∀ n, mnO B bh val n = B ∨ ∃ i, i < n ∧ bh i = true ∧ val i = mnO B bh val n
 | 0 => .inl rfl
 | n + 1 => by
  simp only [mnO]
  cases hf : bh n with
  | false =>
   rw [if_neg (by decide)]
   rcases ot B bh val n with h | ⟨i, h1, h2, h3⟩
   ·exact .inl h
   ·exact .inr ⟨i, by omega, h2, h3⟩
  | true =>
   rw [if_pos rfl]
   by_cases hle : val n ≤ mnO B bh val n
   ·exact .inr ⟨n, by omega, hf, by omega⟩
   ·rcases ot B bh val n with h | ⟨i, h1, h2, h3⟩
    ·exact .inl (by omega)
    ·exact .inr ⟨i, by omega, h2, by omega⟩
theorem Gb (w n m v : Nat) (hn : n ≤ 4) (hm : m < 2 ^ n) (hb : cx w n m v = true) : ∃ i, i < n ∧ pick w n m v i = true := by
 have hd := qA w n m v hn hm
 rw [hb, if_pos rfl] at hd
 have hle := jm w n m v hn hm
 have hfc := jo n m
 rcases ot 10 (bh m) (fun i => 1 + max (a7 w n (m ||| 2 ^ i) v) (a7 w n (m ||| 2 ^ i) (v ||| 2 ^ i))) n with h | ⟨i, h1, h2, h3⟩
 ·omega
 ·refine ⟨i, h1, ?_⟩
  unfold pick
  rw [h2, YI, beq_iff_eq, hd]
  exact h3
theorem qO (p : Nat → Bool) : ∀ d i, (∃ j, i ≤ j ∧ j < i + d ∧ p j = true) → cO p d i < i + d ∧ i ≤ cO p d i ∧ p (cO p d i) = true
 | 0, i, ⟨j, h1, h2, _⟩ => by omega
 | d + 1, i, ⟨j, h1, h2, h3⟩ => by
  simp only [cO]
  cases hp : p i with
  | true => rw [if_pos rfl]; exact ⟨by omega, YG _, hp⟩
  | false =>
   rw [if_neg (by decide)]
   have hne : j ≠ i := fun e => by rw [e, hp] at h3; cases h3
   have := qO p d (i + 1) ⟨j, by omega, by omega, h3⟩
   exact ⟨by omega, by omega, this.2.2⟩
theorem ni {w n m v : Nat} (hn : n ≤ 4) (hm : m < 2 ^ n) (hb : cx w n m v = true) : cO (pick w n m v) n 0 < n ∧ bh m (cO (pick w n m v) n 0) = true ∧ pick w n m v (cO (pick w n m v) n 0) = true := by
 obtain ⟨i, h1, h2⟩ := Gb w n m v hn hm hb
 obtain ⟨h3, _, h4⟩ := qO (pick w n m v) n 0 ⟨i, YV _, by omega, h2⟩
 have h5 := h4
 unfold pick at h5
 simp only [Yz] at h5
 exact ⟨by omega, h5.1, h4⟩
theorem pY (N m v i : Nat) (hm : m < 16) (hv : v < 16) (hi : i < 4) (K : Int → Int → Option β) :
  er N (m : Int) (v : Int) (i : Int) 0 K = K ((m ||| 2 ^ i : Nat) : Int) v ∧ er N (m : Int) (v : Int) (i : Int) 1 K = K ((m ||| 2 ^ i : Nat) : Int) ((v ||| 2 ^ i : Nat) : Int) := by
 have hp : 2 ^ i < 2 ^ 4 := ZJ (by decide) (by omega)
 unfold er EF
 rw [zY, aO i (by omega), pe v (by omega), bOr m _ (by omega) (by omega), bOr v _ (by omega) (by omega), ab (Yx (by omega : (0 : Int) ≤ (i : Int))), ab (Yx (by omega : (0 : Int) ≤ (i : Int)))]
 rw [ab (Yx (by omega : (0 : Int) ≤ (i : Int)))]
 exact ⟨rfl, rfl⟩
theorem Ga (w n m v i : Nat) (hn : n ≤ 4) (hm : m < 2 ^ n) (hb : cx w n m v = true) (hi : i < n) (hf : bh m i = true) :
  pick w n m v i = (decide (a7 w n (m ||| 2 ^ i) v < a7 w n m v) && decide (a7 w n (m ||| 2 ^ i) (v ||| 2 ^ i) < a7 w n m v)) := by
 have hd := qA w n m v hn hm
 rw [hb, if_pos rfl] at hd
 have h1 := Bn 10 (bh m) (fun i => 1 + max (a7 w n (m ||| 2 ^ i) v) (a7 w n (m ||| 2 ^ i) (v ||| 2 ^ i))) n i hi hf
 rw [← hd] at h1
 have h1 : a7 w n m v ≤ 1 + max (a7 w n (m ||| 2 ^ i) v) (a7 w n (m ||| 2 ^ i) (v ||| 2 ^ i)) := h1
 unfold pick
 rw [hf, YI, ZZ, Yz, beq_iff_eq, decide_eq_true_eq, decide_eq_true_eq]
 omega
theorem tq (N : Nat) (hN : 64 < N) (n w : Nat) (hn : n ≤ 4) (hw : w < 2 ^ 2 ^ n) (m v : Nat) (mp mp5 : Mp) (hm : m < 2 ^ n) (hv : v < 2 ^ n) (hM : dP w n mp) :
  ∃ mp', dP w n mp' ∧ ∀ k0 : Int → Int → Int → Mp → Mp → Option β, vB N (m : Int) (v : Int) (n : Int) (w : Int) mp mp5 k0 =
   k0 (if cx w n m v then (cO (pick w n m v) n 0 : Int) else -1) n w mp' mp5 := by
 have hs := Aa hn
 have hw' := Ao (by omega) hw
 unfold vB K3
 obtain ⟨mp1, hM1, he1⟩ := iK (β := β) N hN n w hn hw m v mp mp5 hm hv hM
 simp only [he1]
 cases hx : cx w n m v with
 | false =>
  refine ⟨mp1, hM1, fun k0 => ?_⟩
  rw [if_neg (by decide)]
  have hd := qA w n m v hn hm
  rw [hx, if_neg (by decide)] at hd
  rw [hd]
  refine bc (fun F i => iq N F ((0 : Nat) : Int) (n : Int) (i : Int) (n : Int) (w : Int) mp1 mp5 (m : Int) (v : Int) k0 (fun a b c d => k0 (-1) a b c d)) n _ ?_ ?_ N 0 (YV _) (by omega)
  ·intro F i hi
   simp only [iq, EU, Aw]
   rw [Yx (by omega : (i : Int) < (n : Int)), YC, YD (by decide : ¬ ((0 : Nat) : Int) > 0), YB, aB i (by omega)]
  ·intro F
   simp only [iq, EU, Aw]
   rw [YD (by omega : ¬ (n : Int) < (n : Int)), YB]
 | true =>
  obtain ⟨f1, f2, f3⟩ := ni hn hm hx
  have hpos : 0 < a7 w n m v := by
   have := f3
   unfold pick at this
   simp only [Yz, beq_iff_eq] at this
   omega
  have key : ∀ (d G i : Nat) (mp : Mp), i + d = n → d < G → dP w n mp → (∃ j, i ≤ j ∧ j < i + d ∧ pick w n m v j = true) → cO (pick w n m v) d i = cO (pick w n m v) n 0 →
    ∃ mp', dP w n mp' ∧ ∀ (k0 : Int → Int → Int → Mp → Mp → Option β) (k1 : Int → Int → Mp → Mp → Option β),
     iq N G (a7 w n m v : Int) (n : Int) (i : Int) (n : Int) (w : Int) mp mp5 (m : Int) (v : Int) k0 k1 = k0 (cO (pick w n m v) n 0 : Int) n w mp' mp5 := by
   intro d
   induction d with
   | zero => intro G i mp _ _ _ ⟨j, h1, h2, _⟩; omega
   | succ d ihd =>
    intro G i mp hi hG hM hex hst
    obtain ⟨G, rfl⟩ : ∃ H, G = H + 1 := ⟨G - 1, by omega⟩
    have hlt : i < n := by omega
    simp only [iq, EU, Aw]
    simp only [Yx (by omega : (i : Int) < (n : Int)), Yx (by omega : (a7 w n m v : Int) > 0), YC, ab (Yx (by omega : (0 : Int) ≤ (i : Int))), aB i (by omega), fun K => (pY (β := β) N m v i (by omega) (by omega) (by omega) K).1, fun K => (pY (β := β) N m v i (by omega) (by omega) (by omega) K).2, fT m i (by omega)]
    have eb : ((((if m.testBit i then 1 else 0 : Nat) : Int)) == 0) = bh m i := by
     unfold bh
     cases m.testBit i <;> rfl
    rw [eb]
    simp only [cO] at hst
    have next : pick w n m v i = false → ∀ mp, dP w n mp → ∃ mp', dP w n mp' ∧ ∀ (k0 : Int → Int → Int → Mp → Mp → Option β) (k1 : Int → Int → Mp → Mp → Option β),
      iq N G (a7 w n m v : Int) (n : Int) ((i + 1 : Nat) : Int) (n : Int) (w : Int) mp mp5 (m : Int) (v : Int) k0 k1 = k0 (cO (pick w n m v) n 0 : Int) n w mp' mp5 := by
     intro hno mp hM
     rw [hno, if_neg (by decide)] at hst
     refine ihd G (i + 1) mp (by omega) (by omega) hM ?_ hst
     obtain ⟨j, h1, h2, h3⟩ := hex
     have hne : j ≠ i := fun e => by rw [e, hno] at h3; cases h3
     exact ⟨j, by omega, by omega, h3⟩
    cases hf : bh m i with
    | false =>
     simp only [YB]
     exact next (by unfold pick; rw [hf]; rfl) mp hM
    | true =>
     have hmo := d0 n hn m hm i hlt
     have hvo := d0 n hn v hv i hlt
     have hpk := Ga w n m v i hn hm hx hlt hf
     obtain ⟨mpa, hMa, hea⟩ := iK (β := β) N hN n w hn hw (m ||| 2 ^ i) v mp mp5 hmo hv hM
     obtain ⟨mpb, hMb, heb⟩ := iK (β := β) N hN n w hn hw (m ||| 2 ^ i) (v ||| 2 ^ i) mpa mp5 hmo hvo hMa
     have c1 : decide (((a7 w n (m ||| 2 ^ i) v : Nat) : Int) < (a7 w n m v : Int)) = decide (a7 w n (m ||| 2 ^ i) v < a7 w n m v) := decide_eq_decide.2 (by omega)
     have c2 : decide (((a7 w n (m ||| 2 ^ i) (v ||| 2 ^ i) : Nat) : Int) < (a7 w n m v : Int)) = decide (a7 w n (m ||| 2 ^ i) (v ||| 2 ^ i) < a7 w n m v) := decide_eq_decide.2 (by omega)
     simp only [YC, hea, heb, c1, c2]
     cases d1 : decide (a7 w n (m ||| 2 ^ i) v < a7 w n m v) with
     | false =>
      rw [d1, YZ] at hpk
      simp only [YB]
      exact next hpk mpa hMa
     | true =>
      cases d2 : decide (a7 w n (m ||| 2 ^ i) (v ||| 2 ^ i) < a7 w n m v) with
      | false =>
       rw [d1, d2] at hpk
       simp only [YB, YC]
       exact next hpk mpb hMb
      | true =>
       rw [d1, d2] at hpk
       have hpk : pick w n m v i = true := hpk
       rw [hpk, if_pos rfl] at hst
       rw [← hst]
       exact ⟨mpb, hMb, fun k0 k1 => rfl⟩
  obtain ⟨mp', hM', he⟩ := key n N 0 mp1 (by omega) (by omega) hM1 ⟨_, YV _, by omega, f3⟩ rfl
  exact ⟨mp', hM', fun k0 => by rw [if_pos rfl]; exact he _ _⟩
theorem qZ (b : Bool) : Lib.itoa (if b then 1 else 0 : Int) = [if b then 49 else 48] := by
 cases b
 ·show Lib.itoa 0 = [48]
  unfold Lib.itoa
  rw [if_neg (by decide), Lib.decDigits, dif_pos (by decide)]
  rfl
 ·show Lib.itoa 1 = [49]
  unfold Lib.itoa
  rw [if_neg (by decide), Lib.decDigits, dif_pos (by decide)]
  rfl
theorem vZ (w n : Nat) (hn : n ≤ 4) : ∀ f m v, m < 2 ^ n → v < 2 ^ n → (bst w n f m v).length + 1 ≤ 2 ^ (fc n m + 1)
 | 0, m, v, _, _ => Zn _
 | f + 1, m, v, hm, hv => by
  simp only [bst]
  cases hb : cx w n m v with
  | false =>
   rw [if_neg (by decide)]
   have : 2 ^ 1 ≤ 2 ^ (fc n m + 1) := YE (by decide) (by omega)
   simpa using this
  | true =>
   rw [if_pos rfl]
   obtain ⟨h1, h2, _⟩ := ni hn hm hb
   generalize cO (pick w n m v) n 0 = i at h1 h2 ⊢
   have h4 := fI n hn m hm i h1 h2
   have k1 := vZ w n hn f (m ||| 2 ^ i) v (d0 n hn m hm i h1) hv
   have k2 := vZ w n hn f (m ||| 2 ^ i) (v ||| 2 ^ i) (d0 n hn m hm i h1) (d0 n hn v hv i h1)
   rw [h4] at k1 k2
   have e : 2 ^ (fc n m + 1) = 2 * 2 ^ fc n m := by rw [aaT]; omega
   simp only [YQ, YF]
   omega
theorem gq (w n : Nat) (hn : n ≤ 4) (f m v : Nat) (hm : m < 2 ^ n) (hv : v < 2 ^ n) : (bst w n f m v).length ≤ 31 := by
 have h1 := vZ w n hn f m v hm hv
 have h2 := jo n m
 have : 2 ^ (fc n m + 1) ≤ 2 ^ 5 := YE (by decide) (by omega)
 omega
theorem F4 (i : Nat) (h : i < 5) : aj (([] : List Int) ++ [w8 (97 + w8 (i : Int))]) = B [UInt8.ofNat (97 + i)] := by
 rw [jO i (by omega), show (97 : Int) + (i : Int) = ((97 + i : Nat) : Int) by omega, jO _ (by omega), Qy, Zb]
theorem yZ (N : Nat) (hN : 64 < N) (n w : Nat) (hn : n ≤ 4) (hw : w < 2 ^ 2 ^ n) : ∀ (F m v : Nat) (mp mp5 : Mp), fc n m < F → m < 2 ^ n → v < 2 ^ n → dP w n mp →
  ∃ mp', dP w n mp' ∧ ∀ k0 : ByteArray → Int → Int → Mp → Mp → Option β, nT N F (m : Int) (v : Int) (n : Int) (w : Int) mp mp5 k0 = k0 (B (bst w n F m v)) n w mp' mp5 := by
 have hs := Aa hn
 have hw' := Ao (by omega) hw
 intro F
 induction F with
 | zero => intro m v mp mp5 h; omega
 | succ F ih =>
  intro m v mp mp5 hF hm hv hM
  simp only [nT, Rm, K4]
  obtain ⟨mp1, hM1, he⟩ := tq (β := β) N hN n w hn hw m v mp mp5 hm hv hM
  simp only [he, bst]
  cases hx : cx w n m v with
  | false =>
   refine ⟨mp1, hM1, fun k0 => ?_⟩
   rw [if_neg (by decide), if_neg (by decide), Yx (by decide : (-1 : Int) < 0), YC, nm N hN n w m v (by omega) hw' (by omega)]
   have e : (cond (sc w m v false (2 ^ n)) (cond (sc w m v true (2 ^ n)) (2 : Int) 0) (cond (sc w m v true (2 ^ n)) 1 0)) = (if sc w m v true (2 ^ n) then 1 else 0 : Int) := by
    unfold cx at hx
    revert hx
    cases sc w m v false (2 ^ n) <;> cases sc w m v true (2 ^ n) <;> decide
   rw [e, bT N _ (by cases sc w m v true (2 ^ n) <;> exact ⟨by decide, by decide⟩), qZ]
  | true =>
   obtain ⟨f1, f2, _⟩ := ni hn hm hx
   simp only [if_true]
   generalize cO (pick w n m v) n 0 = i at f1 f2 ⊢
   have h4 := fI n hn m hm i f1 f2
   have hmo := d0 n hn m hm i f1
   have hvo := d0 n hn v hv i f1
   obtain ⟨mpa, hMa, hea⟩ := ih (m ||| 2 ^ i) v mp1 mp5 (by omega) hmo hv hM1
   obtain ⟨mpb, hMb, heb⟩ := ih (m ||| 2 ^ i) (v ||| 2 ^ i) mpa mp5 (by omega) hmo hvo hMa
   refine ⟨mpb, hMb, fun k0 => ?_⟩
   have l1 := gq w n hn F (m ||| 2 ^ i) v hmo hv
   have l2 := gq w n hn F (m ||| 2 ^ i) (v ||| 2 ^ i) hmo hvo
   generalize bst w n F (m ||| 2 ^ i) v = b1 at hea l1 ⊢
   generalize bst w n F (m ||| 2 ^ i) (v ||| 2 ^ i) = b2 at heb l2 ⊢
   have g1 : decide (([UInt8.ofNat (97 + i)] : List UInt8).length + b1.length ≤ 9223372036854775807) = true := Yx (by simp only [YQ, Zi]; omega)
   have g2 : decide ((([UInt8.ofNat (97 + i)] : List UInt8) ++ b1).length + b2.length ≤ 9223372036854775807) = true := Yx (by simp only [YF, YQ, Zi]; omega)
   rw [YD (by omega : ¬ (i : Int) < 0), YB]
   simp only [fun K => (pY (β := β) N m v i (by omega) (by omega) (by omega) K).1, fun K => (pY (β := β) N m v i (by omega) (by omega) (by omega) K).2, hea, heb, F4 i (by omega), bX, be, g1, g2, gd, YC, AE, beq_self_eq_true, decide_true]
   rfl
theorem oe (N : Nat) (hN : 64 < N) (a0 a1 : Int) (h1 : a1 < 9223372036854775808) (k : ByteArray → Bool → Option β) : vC N a0 a1 k = k (B (ji N a0 a1)) (cU a0 a1 4) := by
 unfold vC K5 ji
 rw [pE N a0 a1 4 h1]
 cases hs : cU a0 a1 4 with
 | false => rfl
 | true =>
  have h := hs
  simp only [cU, Yz, decide_eq_true_eq] at h
  obtain ⟨n, w, rfl, rfl, hn, hw, _⟩ := pN h.1
  have hfc := jo n 0
  obtain ⟨mp', _, e⟩ := yZ (β := β) N hN n w (by omega) hw N 0 0 [] [] (by omega) (Zn n) (Zn n) (fun m v h => by cases h)
  simp only [aaw] at e
  rw [if_pos rfl, YP, YB]
  unfold AD K0 Rn
  exact e _
def A8 (p q : Bool) : Int := cond p (cond q 2 0) (cond q 1 (-1))
theorem xd (w m v : Nat) (b : Bool) (x : Nat) (h : sc w m v b x = true) : ∀ d, sc w m v b (x + d) = true
 | 0 => h
 | d + 1 => by rw [← ZC, sc, xd w m v b x h d]; rfl
theorem jI (N : Nat) (hN : 64 < N) (n w m v : Nat) (hn : n ≤ 5) (hw : w < 4294967296) (hm : m < 4294967296) (k : Int → Option β) :
  sZ N (n : Int) (w : Int) (m : Int) (v : Int) k = k (A8 (sc w m v false (2 ^ n)) (sc w m v true (2 ^ n))) := by
 have hs := bZ hn
 unfold sZ Ug
 have key : ∀ (F x : Nat), 2 ^ n - x < F → x ≤ 2 ^ n → (sc w m v false x && sc w m v true x) = false →
   xx N F (m : Int) (v : Int) (A8 (sc w m v false x) (sc w m v true x)) (x : Int) (n : Int) (w : Int) k k = k (A8 (sc w m v false (2 ^ n)) (sc w m v true (2 ^ n))) := by
  intro F
  induction F with
  | zero => intro x h; omega
  | succ F ih =>
   intro x hF hx hno
   simp only [xx, WU, Uf]
   rw [ab (Yx (by omega : (0 : Int) ≤ (n : Int))), aO n (by omega)]
   by_cases hlt : x < 2 ^ n
   ·rw [Yx (by omega : (x : Int) < ((2 ^ n : Nat) : Int)), YC, bAnd x m (by omega) (by omega), fT w x (by omega), aB x (by omega), ab (Yx (by omega : (0 : Int) ≤ (x : Int)))]
    have e0 : (((x &&& m : Nat) : Int) != (v : Int)) = !(x &&& m == v) := by
     rw [bne, ZZ]
     simp only [YT, beq_eq_false_iff_ne, ne_eq]
     omega
    rw [e0]
    have ih' := ih (x + 1) (by omega) (by omega)
    have s0 : ∀ b, sc w m v b (x + 1) = (sc w m v b x || (x &&& m == v && w.testBit x == b)) := fun _ => rfl
    rw [s0, s0] at ih'
    cases hv : (x &&& m == v) with
    | false =>
     rw [hv] at ih'
     simp only [YZ, aaj] at ih'
     rw [Zx, YC]
     exact ih' hno
    | true =>
     rw [hv] at ih'
     simp only [YI] at ih'
     rw [YP, YB]
     have jj : sc w m v false (x + 1) = true → sc w m v true (x + 1) = true → A8 (sc w m v false (2 ^ n)) (sc w m v true (2 ^ n)) = 2 := fun h1 h2 => by
      have h3 := xd w m v false (x + 1) h1 (2 ^ n - (x + 1))
      have h4 := xd w m v true (x + 1) h2 (2 ^ n - (x + 1))
      rw [show x + 1 + (2 ^ n - (x + 1)) = 2 ^ n by omega] at h3 h4
      rw [h3, h4]
      rfl
     rw [s0, s0, hv] at jj
     simp only [YI] at jj
     generalize A8 (sc w m v false (2 ^ n)) (sc w m v true (2 ^ n)) = R at ih' jj ⊢
     cases h0 : sc w m v false x <;> cases h1 : sc w m v true x <;> cases hb : w.testBit x <;> rw [h0, h1] at hno <;> simp only [h0, h1, hb] at ih' jj <;> simp [A8] at hno ih' jj ⊢ <;> first | exact ih' | (rw [jj]) | (cases hno)
   ·rw [YD (by omega : ¬ (x : Int) < ((2 ^ n : Nat) : Int)), YB, show x = 2 ^ n by omega]
 exact key N 0 (by omega) (YV _) rfl
theorem qy (w n m v : Nat) : decide (A8 (sc w m v false (2 ^ n)) (sc w m v true (2 ^ n)) < 2) = !cx w n m v := by
 unfold cx
 cases sc w m v false (2 ^ n) <;> cases sc w m v true (2 ^ n) <;> rfl
theorem OX (w n m v : Nat) (hv : v < 2 ^ n) (hvm : v &&& m = v) : (sc w m v false (2 ^ n) || sc w m v true (2 ^ n)) = true := by
 have := (BN w m v (w.testBit v) (2 ^ n)).2 ⟨v, hv, hvm, rfl⟩
 cases hb : w.testBit v with
 | true => rw [hb] at this; rw [this, Bool.or_true]
 | false => rw [hb] at this; rw [this, Bool.true_or]
theorem pd (a : Nat) : ((a : Int) == 0) = (a == 0) := by cases a <;> rfl
theorem Do : ∀ m, m < 16 → ∀ i, i < 4 → (m &&& 2 ^ i == 0) = bh m i := by decide +kernel
theorem Q8 (B : Nat) (bh : Nat → Bool) (val : Nat → Nat) : ∀ n, mnO B bh val n ≤ B
 | 0 => YG _
 | n + 1 => by
  have := Q8 B bh val n
  simp only [mnO]
  split <;> omega
theorem xi (N : Nat) (hN : 64 < N) (n w : Nat) (hn : n ≤ 4) (hw : w < 2 ^ 2 ^ n) : ∀ (F m v : Nat), fc n m < F → m < 2 ^ n → v < 2 ^ n → ∀ k : Int → Option β, nV N F (n : Int) (w : Int) (m : Int) (v : Int) k = k (a7 w n m v : Int) := by
 have hs := Aa hn
 have hw' := Ao (by omega) hw
 intro F
 induction F with
 | zero => intro m v h; omega
 | succ F ih =>
  intro m v hF hm hv k
  simp only [nV, WV, Uh]
  rw [jI N hN n w m v (by omega) hw' (by omega), qy, qA w n m v hn hm]
  cases hx : cx w n m v with
  | false => rfl
  | true =>
   rw [if_pos rfl, YP, YB]
   generalize hval : (fun i => 1 + max (a7 w n (m ||| 2 ^ i) v) (a7 w n (m ||| 2 ^ i) (v ||| 2 ^ i))) = val
   have hvi : ∀ i, 1 + max (a7 w n (m ||| 2 ^ i) v) (a7 w n (m ||| 2 ^ i) (v ||| 2 ^ i)) = val i := fun i => by rw [← hval]
   have key : ∀ (d G i : Nat), i + d = n → d < G → tK N (nV N F) G (m : Int) (v : Int) (mnO 10 (bh m) val i : Int) (i : Int) (n : Int) (w : Int) k = k (mnO 10 (bh m) val n : Int) := by
    intro d
    induction d with
    | zero =>
     intro G i hi hG
     obtain ⟨G, rfl⟩ : ∃ H, G = H + 1 := ⟨G - 1, by omega⟩
     simp only [tK, UE, Qj]
     rw [YD (by omega : ¬ (i : Int) < (n : Int)), YB, show i = n by omega]
    | succ d ihd =>
     intro G i hi hG
     obtain ⟨G, rfl⟩ : ∃ H, G = H + 1 := ⟨G - 1, by omega⟩
     have hlt : i < n := by omega
     have hp : 2 ^ i < 2 ^ 4 := ZJ (by decide) (by omega)
     simp only [tK, UE, Qj]
     rw [Yx (by omega : (i : Int) < (n : Int)), YC, ab (Yx (by omega : (0 : Int) ≤ (i : Int))), aO i (by omega), bAnd m _ (by omega) (by omega), pd, Do m (by omega) i (by omega), bOr m _ (by omega) (by omega), bOr v _ (by omega) (by omega), aB i (by omega)]
     have h1 := ihd G (i + 1) (by omega) (by omega)
     simp only [mnO] at h1
     cases hf : bh m i with
     | false => rw [hf] at h1; exact h1
     | true =>
      rw [hf, if_pos rfl] at h1
      have h4 := fI n hn m hm i hlt hf
      have hmo := d0 n hn m hm i hlt
      have hvo := d0 n hn v hv i hlt
      have hd1 := jm w n (m ||| 2 ^ i) v hn hmo
      have hd2 := jm w n (m ||| 2 ^ i) (v ||| 2 ^ i) hn hmo
      have hfc := jo n (m ||| 2 ^ i)
      have hB := Q8 10 (bh m) val i
      rw [YC, ih _ v (by omega) hmo hv, ih _ _ (by omega) hmo hvo, wF, show (1 : Int) + ((max (a7 w n (m ||| 2 ^ i) v) (a7 w n (m ||| 2 ^ i) (v ||| 2 ^ i)) : Nat) : Int) = ((1 + max (a7 w n (m ||| 2 ^ i) v) (a7 w n (m ||| 2 ^ i) (v ||| 2 ^ i)) : Nat) : Int) by omega, xt _ (by omega), DN, hvi]
      exact h1
   exact key n N 0 (by omega) (by omega)
theorem gc (N : Nat) (hN : 64 < N) (n w : Nat) (hn : n ≤ 4) (hw : w < 2 ^ 2 ^ n) (m v : Nat) (hm : m < 2 ^ n) (hv : v < 2 ^ n) (k : Int → Option β) : UF N (n : Int) (w : Int) (m : Int) (v : Int) k = k (a7 w n m v : Int) := by
 have := jo n m
 exact xi N hN n w hn hw N m v (by omega) hm hv k
theorem Ks (m v b : Nat) (h : v &&& m = v) : v &&& (m ||| b) = v ∧ (v ||| b) &&& (m ||| b) = v ||| b := by
 have hb : ∀ j, v.testBit j = true → m.testBit j = true := fun j hj => by
  have e := congrArg (fun x => x.testBit j) h
  simp only [ZF, hj, YI] at e
  exact e
 constructor
 ·apply Zp
  intro j
  have := hb j
  simp only [ZF, aat]
  cases hv : v.testBit j with
  | false => rfl
  | true => rw [this hv]; rfl
 ·apply Zp
  intro j
  have := hb j
  simp only [ZF, aat]
  cases hv : v.testBit j with
  | false => cases m.testBit j <;> cases b.testBit j <;> rfl
  | true => rw [this hv]; rfl
theorem Ac (N : Nat) (hN : 64 < N) (n w : Nat) (hn : n ≤ 4) (hw : w < 2 ^ 2 ^ n) : ∀ (F m v : Nat), fc n m < F → m < 2 ^ n → v < 2 ^ n → v &&& m = v → ∀ k : ByteArray → Option β,
  nW N F (n : Int) (w : Int) (m : Int) (v : Int) k = k (B (bst w n F m v)) := by
 have hs := Aa hn
 have hw' := Ao (by omega) hw
 intro F
 induction F with
 | zero => intro m v h; omega
 | succ F ih =>
  intro m v hF hm hv hvm k
  simp only [nW, WX, Uj]
  rw [jI N hN n w m v (by omega) hw' (by omega), qy]
  simp only [bst]
  cases hx : cx w n m v with
  | false =>
   rw [if_neg (by decide), Zx, YC]
   unfold cx at hx
   cases h0 : sc w m v false (2 ^ n) with
   | true =>
    rw [h0, YI] at hx
    rw [hx]; rfl
   | false =>
    cases h1 : sc w m v true (2 ^ n) with
    | true => rfl
    | false => exact absurd (OX w n m v hv hvm) (by rw [h0, h1]; decide)
  | true =>
   rw [if_pos rfl, YP, YB]
   have hfcn := jo n m
   rw [gc N hN n w hn hw m v hm hv]
   obtain ⟨f1, f2, f3⟩ := ni hn hm hx
   have key : ∀ (d G i : Nat), i + d = n → d < G → (∃ j, i ≤ j ∧ j < i + d ∧ pick w n m v j = true) → cO (pick w n m v) d i = cO (pick w n m v) n 0 →
     tL N (nW N F) G (m : Int) (v : Int) (a7 w n m v : Int) (i : Int) (n : Int) (w : Int) k (k ByteArray.empty) =
     k (B (UInt8.ofNat (97 + cO (pick w n m v) n 0) :: (bst w n F (m ||| 2 ^ cO (pick w n m v) n 0) v ++ bst w n F (m ||| 2 ^ cO (pick w n m v) n 0) (v ||| 2 ^ cO (pick w n m v) n 0)))) := by
    intro d
    induction d with
    | zero => intro G i _ _ ⟨j, h1, h2, _⟩; omega
    | succ d ihd =>
     intro G i hi hG hex hst
     obtain ⟨G, rfl⟩ : ∃ H, G = H + 1 := ⟨G - 1, by omega⟩
     have hlt : i < n := by omega
     have hp : 2 ^ i < 2 ^ 4 := ZJ (by decide) (by omega)
     simp only [tL, WW, Ui]
     rw [Yx (by omega : (i : Int) < (n : Int)), YC, ab (Yx (by omega : (0 : Int) ≤ (i : Int))), aO i (by omega), bAnd m _ (by omega) (by omega), pd, Do m (by omega) i (by omega), bOr m _ (by omega) (by omega), bOr v _ (by omega) (by omega), aB i (by omega)]
     simp only [cO] at hst
     have next : pick w n m v i = false → tL N (nW N F) G (m : Int) (v : Int) (a7 w n m v : Int) ((i + 1 : Nat) : Int) (n : Int) (w : Int) k (k ByteArray.empty) =
       k (B (UInt8.ofNat (97 + cO (pick w n m v) n 0) :: (bst w n F (m ||| 2 ^ cO (pick w n m v) n 0) v ++ bst w n F (m ||| 2 ^ cO (pick w n m v) n 0) (v ||| 2 ^ cO (pick w n m v) n 0)))) := by
      intro hno
      rw [hno, if_neg (by decide)] at hst
      refine ihd G (i + 1) (by omega) (by omega) ?_ hst
      obtain ⟨j, h1, h2, h3⟩ := hex
      have hne : j ≠ i := fun e => by rw [e, hno] at h3; cases h3
      exact ⟨j, by omega, by omega, h3⟩
     cases hf : bh m i with
     | false =>
      rw [YB]
      exact next (by unfold pick; rw [hf]; rfl)
     | true =>
      have h4 := fI n hn m hm i hlt hf
      have hmo := d0 n hn m hm i hlt
      have hvo := d0 n hn v hv i hlt
      have hd1 := jm w n (m ||| 2 ^ i) v hn hmo
      have hd2 := jm w n (m ||| 2 ^ i) (v ||| 2 ^ i) hn hmo
      have hfc := jo n (m ||| 2 ^ i)
      rw [YC, gc N hN n w hn hw _ v hmo hv, gc N hN n w hn hw _ _ hmo hvo, wF, show (1 : Int) + ((max (a7 w n (m ||| 2 ^ i) v) (a7 w n (m ||| 2 ^ i) (v ||| 2 ^ i)) : Nat) : Int) = ((1 + max (a7 w n (m ||| 2 ^ i) v) (a7 w n (m ||| 2 ^ i) (v ||| 2 ^ i)) : Nat) : Int) by omega, xt _ (by omega), iO]
      have hpk : pick w n m v i = (1 + max (a7 w n (m ||| 2 ^ i) v) (a7 w n (m ||| 2 ^ i) (v ||| 2 ^ i)) == a7 w n m v) := by unfold pick; rw [hf, YI]
      rw [← hpk]
      cases hpi : pick w n m v i with
      | false => rw [YB]; exact next hpi
      | true =>
       rw [hpi, if_pos rfl] at hst
       rw [← hst]
       have l1 := gq w n hn F (m ||| 2 ^ i) v hmo hv
       have l2 := gq w n hn F (m ||| 2 ^ i) (v ||| 2 ^ i) hmo hvo
       rw [YC, nu, ab (Yx (by omega)), ab (Yx (by omega)), ab (Yx (by omega)), ab (Yx (by omega)), Zb, Zb, q8 i (by omega), ih _ v (by omega) hmo hv (Ks m v (2 ^ i) hvm).1, be, be, ab (Yx (by simp only [YQ, Zi]; omega)), ih _ _ (by omega) hmo hvo (Ks m v (2 ^ i) hvm).2, bX, be, be, ab (Yx (by simp only [YF, YQ, Zi]; omega)), bX]
       rfl
   exact key n N 0 (by omega) (by omega) ⟨_, YV _, by omega, f3⟩ rfl
theorem oM (N : Nat) (hN : 64 < N) (a0 a1 : Int) (k : ByteArray → Bool → Option β) : Hs N a0 a1 k = k (B (ji N a0 a1)) (cU a0 a1 4) := by
 unfold Hs Uk ji
 rw [bm]
 cases ht : isT a0 a1 with
 | false =>
  have hs : cU a0 a1 4 = false := by unfold cU; rw [ht]; rfl
  rw [hs]; rfl
 | true =>
  obtain ⟨n, w, rfl, rfl, hn, hw, _⟩ := pN ht
  by_cases h : n ≤ 4
  ·have hs : cU (n : Int) (w : Int) 4 = true := by unfold cU; rw [ht, Yx (by omega)]; rfl
   have hfc := jo n 0
   have e := Ac (β := β) N hN n w h hw N 0 0 (by omega) (Zn n) (Zn n) rfl fun r => k r true
   simp only [aaw] at e
   rw [hs, if_pos rfl, YP, YB, YD (by omega), YB]
   exact e
  ·have hs : cU (n : Int) (w : Int) 4 = false := by unfold cU; rw [ht, YD (by omega)]; rfl
   rw [hs, YP, YB, Yx (by omega), YC]
   rfl
theorem t7 (N : Nat) (a0 a1 : Int) : (ji N a0 a1).length ≤ 31 := by
 unfold ji
 cases hs : cU a0 a1 4 with
 | false => exact YV _
 | true =>
  have h := hs
  simp only [cU, Yz, decide_eq_true_eq] at h
  obtain ⟨n, w, rfl, rfl, hn, hw, _⟩ := pN h.1
  rw [if_pos rfl]
  exact gq w n (by omega) N 0 0 (Zn n) (Zn n)
theorem Ag : ∀ n, n ≤ 4 → 2 ^ 2 ^ n ≤ 65536 := by decide +kernel
theorem yy (N : Nat) (hN : 1048576 < N) (o : List (Nat × Nat)) (ho : o.length ≤ 1000) (h : Int → Int → (Bool → Option β) → Option β) (p : Nat × Nat → Bool) (hh : ∀ t ∈ o, ∀ k, h (t.1 : Int) (t.2 : Int) k = k (p t)) (K : Bool → Option β) : tD N (tl o) h K = K (o.any p) := by
 unfold tD KL zj9 zb9
 rw [aR]
 have key : ∀ (d i F : Nat), o.length - i = d → i ≤ o.length → d < F → zj8 N h F (tl o) (o.length : Int) (i : Int) (fun e => K (decide (e ≥ 0))) (K (decide ((-1 : Int) ≥ 0))) = K ((o.drop i).any p) := by
  intro d
  induction d with
  | zero =>
   intro i F hd hi hF
   obtain ⟨G, rfl⟩ : ∃ G, F = G + 1 := ⟨F - 1, by omega⟩
   simp only [zj8, zj7, zb7]
   rw [YD (by omega), YB, aan (by omega)]
   rfl
  | succ d ih =>
   intro i F hd hi hF
   obtain ⟨G, rfl⟩ : ∃ G, F = G + 1 := ⟨F - 1, by omega⟩
   have hlt : i < o.length := by omega
   simp only [zj8, zj7, zb7, aR, hU o i hlt]
   rw [Yx (by omega : (i : Int) < (o.length : Int)), YC, ab (Yx (by omega)), ab rfl, hh _ (YS hlt), aB i (by omega), ih (i + 1) G (by omega) (by omega) (by omega), ZX hlt, List.any_cons, Yx (by omega : (i : Int) ≥ 0)]
   cases p o[i] <;> rfl
 exact (key o.length 0 N (by omega) (by omega) (by omega)).trans (by rw [Z4])
def rows (l : List (Nat × Nat)) : List (List Int) := l.map fun p => [(p.1 : Int), (p.2 : Int)]
def jj (o : List (Nat × Nat)) (x y : Nat) : Bool := o.any fun t => (x &&& t.1 == t.2) && (y &&& t.1 == t.2)
def hold (o : List (Nat × Nat)) (x : Nat) : Bool := o.any fun t => x &&& t.1 == t.2
def hz (o : List (Nat × Nat)) (x y : Nat) : Bool := !jj o x y && (hold o x && hold o y)
def hzr (o : List (Nat × Nat)) (x : Nat) : Nat → List (Nat × Nat)
 | 0 => []
 | i + 1 => hzr o x i ++ cond (!x.testBit i && hz o x (x ||| 2 ^ i)) [(x, x ||| 2 ^ i)] []
def hzl (n : Nat) (o : List (Nat × Nat)) : Nat → List (Nat × Nat)
 | 0 => []
 | x + 1 => hzl n o x ++ hzr o x n
def uns (x : Nat) : Nat → Nat
 | 0 => 0
 | i + 1 => uns x i + cond (x.testBit i) 0 1
def Kz (n : Nat) : Nat → Nat
 | 0 => 0
 | x + 1 => Kz n x + uns x n
theorem pL (o : List (Nat × Nat)) (x : Nat) : ∀ i, (hzr o x i).length ≤ uns x i
 | 0 => YG _
 | i + 1 => by
  have := pL o x i
  simp only [hzr, uns, YF]
  cases x.testBit i <;> cases hz o x (x ||| 2 ^ i) <;> simp <;> omega
theorem wt (n : Nat) (o : List (Nat × Nat)) : ∀ m, (hzl n o m).length ≤ Kz n m
 | 0 => YG _
 | m + 1 => by
  have h1 := wt n o m
  have h2 := pL o m n
  simp only [hzl, Kz, YF]
  omega
theorem xp (x : Nat) : ∀ i, uns x i ≤ i
 | 0 => YG _
 | i + 1 => by
  have := xp x i
  simp only [uns]
  cases x.testBit i <;> simp <;> omega
theorem xq (n : Nat) : ∀ m, Kz n m ≤ n * m
 | 0 => YG _
 | m + 1 => by
  have h1 := xq n m
  have h2 := xp m n
  simp only [Kz]
  rw [Nat.mul_succ]
  omega
theorem KI : ∀ x : Nat, x < 32 → ∀ i : Nat, i < 5 → decide ((x : Int) < bits .xor .i64 (x : Int) (bb .i64 1 (i : Int))) = !x.testBit i ∧ (x.testBit i = false → bits .xor .i64 (x : Int) (bb .i64 1 (i : Int)) = ((x ||| 2 ^ i : Nat) : Int)) ∧ bits .or .i64 (x : Int) (bb .i64 1 (i : Int)) = ((x ||| 2 ^ i : Nat) : Int) ∧ x ||| 2 ^ i < 32 := by decide +kernel
theorem DF {o : List (Nat × Nat)} {x i : Nat} (hb : x.testBit i = true) : hzr o x (i + 1) = hzr o x i := by
 show hzr o x i ++ cond (!x.testBit i && hz o x (x ||| 2 ^ i)) [(x, x ||| 2 ^ i)] [] = _
 rw [hb]
 exact YR _
theorem lA (t : Nat × Nat) (o : List (Nat × Nat)) (x : Nat) : hold (t :: o) x = ((x &&& t.1 == t.2) || hold o x) := rfl
theorem t8 (t : Nat × Nat) (o : List (Nat × Nat)) (x y : Nat) : jj (t :: o) x y = (((x &&& t.1 == t.2) && (y &&& t.1 == t.2)) || jj o x y) := rfl
theorem oR (N : Nat) (hN : 1048576 < N) (n : Nat) (o : List (Nat × Nat)) (ho : o.length ≤ 1000) (hg : Ts n o) (x y : Nat) (hx : x < 32) (hy : y < 32) (K : Bool → Option β) : py N (tl o) (x : Int) (y : Int) K = K (hz o x y) := by
 unfold py KO
 have key : ∀ (d i F : Nat) (a b : Bool), o.length - i = d → i ≤ o.length → d < F → l0 N F (tl o) (x : Int) (y : Int) a b (i : Int) (fun e => K e) (fun e0 e1 => cond e0 (K e1) (K false)) = K (!jj (o.drop i) x y && ((a || hold (o.drop i) x) && (b || hold (o.drop i) y))) := by
  intro d
  induction d with
  | zero =>
   intro i F a b hd hi hF
   obtain ⟨G, rfl⟩ : ∃ G, F = G + 1 := ⟨F - 1, by omega⟩
   simp only [l0, Lu, Es, aR]
   rw [YD (by omega), YB, aan (by omega)]
   cases a <;> cases b <;> rfl
  | succ d ih =>
   intro i F a b hd hi hF
   obtain ⟨G, rfl⟩ : ∃ G, F = G + 1 := ⟨F - 1, by omega⟩
   have hlt : i < o.length := by omega
   obtain ⟨g1, g2, g3⟩ := hg o[i] (YS hlt)
   have next := fun a b => ih (i + 1) G a b (by omega) (by omega) (by omega)
   rw [ZX hlt, lA, lA, t8]
   simp only [l0, Lu, Es, hU o i hlt, aR]
   simp only [ab (Yx (by omega : (0 : Int) ≤ (i : Int))), Yx (by omega : (i : Int) < (o.length : Int)), ab (rfl : true = true), YC]
   rw [fE x hx _ g2, fE y hy _ g2, iO, iO, aB i (by omega)]
   cases hh1 : (x &&& o[i].1 == o[i].2) <;> cases hh2 : (y &&& o[i].1 == o[i].2) <;> cases a <;> cases b <;> simp only [YC, YB, next] <;> simp
 refine (key o.length 0 N false false (by omega) (by omega) (by omega)).trans ?_
 rw [Z4]
 rfl
theorem zQ (l : List (Nat × Nat)) : (rows l).length = l.length := Zm ..
theorem GV (l : List (Nat × Nat)) (p : Nat × Nat) : rows (l ++ [p]) = rows l ++ [[(p.1 : Int), (p.2 : Int)]] := by unfold rows; rw [Z0]; rfl
theorem DG {o : List (Nat × Nat)} {x i : Nat} (hb : x.testBit i = false) (hh : hz o x (x ||| 2 ^ i) = true) (l : List (Nat × Nat)) : rows (l ++ hzr o x (i + 1)) = rows (l ++ hzr o x i) ++ [[(x : Int), ((x ||| 2 ^ i : Nat) : Int)]] := by
 show rows (l ++ (hzr o x i ++ cond (!x.testBit i && hz o x (x ||| 2 ^ i)) [(x, x ||| 2 ^ i)] [])) = _
 rw [hb, hh, ← Zg, show cond (!false && true) [(x, x ||| 2 ^ i)] [] = [(x, x ||| 2 ^ i)] from rfl, GV]
theorem Je {o : List (Nat × Nat)} {x i : Nat} (hh : hz o x (x ||| 2 ^ i) = false) : hzr o x (i + 1) = hzr o x i := by
 show hzr o x i ++ cond (!x.testBit i && hz o x (x ||| 2 ^ i)) [(x, x ||| 2 ^ i)] [] = _
 rw [hh, aaE]
 exact YR _
theorem oQ (N : Nat) (hN : 1048576 < N) (n : Nat) (hn : n ≤ 4) (o : List (Nat × Nat)) (ho : o.length ≤ 40) (hg : Ts n o) (K : List (List Int) → Bool → Option β) : vt N (n : Int) (tl o) K = K (rows (hzl n o (2 ^ n))) true := by
 have hs : 2 ^ n ≤ 16 := (YE (by decide) hn : 2 ^ n ≤ 2 ^ 4)
 have hz0 : (0 : Int) ≤ ((2 ^ n : Nat) : Int) := Za _
 unfold vt KP
 rw [sx N hN n (by omega) o (by omega) hg, Yx (by omega), YP, YB]
 refine bc (fun F x => im N F (n : Int) (tl o) (x : Int) (rows (hzl n o x)) fun e => K e true) (2 ^ n) _ (fun F x hx => ?_) (fun F => ?_) N 0 (by omega) (by omega)
 ·simp only [im, Lw, Eu]
  rw [ab (Yx (by omega)), aO n (by omega), Yx (by omega : (x : Int) < ((2 ^ n : Nat) : Int)), YC]
  have hl1 := wt n o x
  have hl2 := xq n x
  have hl3 : n * x ≤ 4 * 16 := aa0 hn (by omega)
  refine (bc (fun H i => kU N H (n : Int) (tl o) (x : Int) (i : Int) (rows (hzl n o x ++ hzr o x i)) fun e0 e1 e2 e3 => im N F e0 e1 (w64 (e2 + 1)) e3 fun e => K e true) n (im N F (n : Int) (tl o) ((x + 1 : Nat) : Int) (rows (hzl n o (x + 1))) fun e => K e true) (fun H i hi => ?_) (fun H => ?_) N 0 (by omega) (by omega) |> fun h => ZU (by rw [show hzr o x 0 = [] from rfl, YR]; rfl) h)
  ·obtain ⟨-, -, c2, c3⟩ := KI x (by omega) i (by omega)
   have hl4 := pL o x i
   have hl5 := xp x i
   simp only [kU, Lv, Et]
   rw [Yx (by omega : (i : Int) < (n : Int)), YC, ab (Yx (by omega)), Ix x i (by omega), aB i (by omega), c2]
   cases hb : x.testBit i with
   | true =>
    rw [show (!true) = false from rfl, YB, DF hb]
   | false =>
    rw [show (!false) = true from rfl, YC, ab (Yx (by omega)), oR N hN n o (by omega) hg x _ (by omega) c3]
    cases hh : hz o x (x ||| 2 ^ i) with
    | true =>
     rw [YC, ab (Yx (by omega)), ab (Yx (by rw [zQ, YF]; simp; omega)), DG hb hh]
     rfl
    | false =>
     rw [YB, Je hh]
  ·simp only [kU, Lv, Et]
   rw [YD (by omega : ¬ (n : Int) < (n : Int)), YB, aB x (by omega)]
   rfl
 ·simp only [im, Lw, Eu]
  rw [ab (Yx (by omega)), aO n (by omega), YD (by omega : ¬ ((2 ^ n : Nat) : Int) < ((2 ^ n : Nat) : Int)), YB]
theorem pD (N : Nat) (hN : 1048576 < N) (n : Nat) (o : List (Nat × Nat)) (ho : o.length ≤ 1000) (hg : Ts n o) (x y : Nat) (hx : x < 32) (hy : y < 32) (K : Bool → Option β) : pB N (tl o) (x : Int) (y : Int) K = K (hz o x y) := by
 unfold pB Lk
 rw [aR]
 have key : ∀ (d i F : Nat) (a b : Bool), o.length - i = d → i ≤ o.length → d < F → ma N F (x : Int) (y : Int) a b (tl o) (o.length : Int) (i : Int) (fun e => K e) (fun e0 e1 => cond e0 (K e1) (K false)) = K (!jj (o.drop i) x y && ((a || hold (o.drop i) x) && (b || hold (o.drop i) y))) := by
  intro d
  induction d with
  | zero =>
   intro i F a b hd hi hF
   obtain ⟨G, rfl⟩ : ∃ G, F = G + 1 := ⟨F - 1, by omega⟩
   simp only [ma, LK, EN]
   rw [YD (by omega), YB, aan (by omega)]
   cases a <;> cases b <;> rfl
  | succ d ih =>
   intro i F a b hd hi hF
   obtain ⟨G, rfl⟩ : ∃ G, F = G + 1 := ⟨F - 1, by omega⟩
   have hlt : i < o.length := by omega
   obtain ⟨g1, g2, g3⟩ := hg o[i] (YS hlt)
   have next := fun a b => ih (i + 1) G a b (by omega) (by omega) (by omega)
   rw [ZX hlt, lA, lA, t8]
   simp only [ma, LK, EN, hU o i hlt, aR, zj1, zb1]
   rw [Yx (by omega : (i : Int) < (o.length : Int)), YC, ab (Yx (by omega)), ab rfl, fE x hx _ g2, fE y hy _ g2, iO, iO, aB i (by omega)]
   cases hh1 : (x &&& o[i].1 == o[i].2) <;> cases hh2 : (y &&& o[i].1 == o[i].2) <;> cases a <;> cases b <;> simp only [YC, YB, next] <;> simp
 refine (key o.length 0 N false false (by omega) (by omega) (by omega)).trans ?_
 rw [Z4]
 rfl
theorem qS (N : Nat) (hN : 1048576 < N) (n : Nat) (hn : n ≤ 4) (o : List (Nat × Nat)) (ho : o.length ≤ 1000) (hg : Ts n o) (K : List (List Int) → Option β) : vH N (n : Int) (tl o) K = K (rows (hzl n o (2 ^ n))) := by
 have hs : 2 ^ n ≤ 16 := (YE (by decide) hn : 2 ^ n ≤ 2 ^ 4)
 have hz0 : (0 : Int) ≤ ((2 ^ n : Nat) : Int) := Za _
 unfold vH Ll
 rw [ab (Yx (by omega)), aO n (by omega)]
 refine bc (fun F x => iv N F (n : Int) (tl o) ((2 ^ n : Nat) : Int) (x : Int) (rows (hzl n o x)) fun e => K e) (2 ^ n) _ (fun F x hx => ?_) (fun F => ?_) N 0 (by omega) (by omega)
 ·simp only [iv, LM, EP]
  rw [Yx (by omega : (x : Int) < ((2 ^ n : Nat) : Int)), YC]
  have hl1 := wt n o x
  have hl2 := xq n x
  have hl3 : n * x ≤ 4 * 16 := aa0 hn (by omega)
  refine (bc (fun H i => k9 N H (n : Int) (tl o) (x : Int) ((2 ^ n : Nat) : Int) (x : Int) (n : Int) (i : Int) (rows (hzl n o x ++ hzr o x i)) fun e0 e1 e2 e3 e4 => iv N F e0 e1 e2 (w64 (e3 + 1)) e4 fun e => K e) n (iv N F (n : Int) (tl o) ((2 ^ n : Nat) : Int) ((x + 1 : Nat) : Int) (rows (hzl n o (x + 1))) fun e => K e) (fun H i hi => ?_) (fun H => ?_) N 0 (by omega) (by omega) |> fun h => ZU (by rw [show hzr o x 0 = [] from rfl, YR]; rfl) h)
  ·obtain ⟨c1, c2, -, c3⟩ := KI x (by omega) i (by omega)
   have hl4 := pL o x i
   have hl5 := xp x i
   simp only [k9, LL, EO]
   rw [Yx (by omega : (i : Int) < (n : Int)), YC, ab (Yx (by omega)), c1, aB i (by omega)]
   cases hb : x.testBit i with
   | true =>
    rw [show (!true) = false from rfl, YB, DF hb]
   | false =>
    rw [c2 hb, show (!false) = true from rfl, YC, pD N hN n o ho hg x _ (by omega) c3]
    cases hh : hz o x (x ||| 2 ^ i) with
    | true =>
     rw [YC, ab (Yx (by rw [zQ, YF]; simp; omega)), DG hb hh]
     rfl
    | false =>
     rw [YB, Je hh]
  ·simp only [k9, LL, EO]
   rw [YD (by omega : ¬ (n : Int) < (n : Int)), YB, aB x (by omega)]
   rfl
 ·simp only [iv, LM, EP]
  rw [YD (by omega : ¬ ((2 ^ n : Nat) : Int) < ((2 ^ n : Nat) : Int)), YB]
theorem Bj (N : Nat) (hN : 1048576 < N) (n : Nat) (hn : n ≤ 5) (o : List (Nat × Nat)) (ho : o.length ≤ 1000) (hg : ∀ t ∈ o, CM n t) (K : Bool → Option β) : vG N (n : Int) (tl o) K = K (decide ((o.length : Int) ≤ 40)) := by
 unfold vG Li AJ Lh zj3 zb3 tD KL zj9 zb9
 rw [Yx (by omega : (n : Int) ≥ 0), YC, Yx (by omega : (n : Int) ≤ 5)]
 dsimp only
 rw [YC, aR]
 have main := fun (K : Int → Option β) => bc (fun F i => zj8 N (fun x0 x1 k => zj6 N x0 x1 (n : Int) k) F (tl o) (o.length : Int) (i : Int) (fun e => K e) (K (-1))) o.length (K (-1)) (fun F i hi => by
  obtain ⟨h1, h2, h3⟩ := hg o[i] (YS hi)
  simp only [zj8, zj7, zb7, aR, hU o i hi, zj6, zb6]
  rw [Yx (by omega : (i : Int) < (o.length : Int)), YC, ab (Yx (by omega)), ab rfl, lS N n _ _ hn h2 h3, h1, YP, YB, aB i (by omega)]) (fun F => by
  simp only [zj8, zj7, zb7]
  rw [YD (by omega), YB]) N 0 (by omega) (by omega)
 refine (main _).trans ?_
 rfl
theorem lK (N : Nat) (hN : 1048576 < N) (n : Nat) (hn : n ≤ 4) (o : List (Nat × Nat)) (ho : o.length ≤ 40) (hg : Ts n o) (K : Bool → Option β) : vI N (n : Int) (tl o) K = K (((rows (hzl n o (2 ^ n))).length : Int) == 0) := by
 unfold vI Lm
 rw [Bj N hN n (by omega) o (by omega) hg, Yx (by omega), YC, qS N hN n hn o (by omega) hg]
end Go.Proofs.YtemihnclhcobnaaGreatDoor
namespace Go.Proofs.YtemihnclhcobnaaGreatDoor
open Go.Rv
set_option linter.unusedSimpArgs false
set_option linter.unusedVariables false
variable {β : Type}
theorem eJ : ∀ x a b : Nat, (a - (a &&& b)).testBit x = (a.testBit x && !b.testBit x)
 | 0, a, b => by
  have h1 : (a &&& b) % 2 = 1 ↔ a % 2 = 1 ∧ b % 2 = 1 := Nat.and_mod_two_eq_one
  have h2 : a &&& b ≤ a := Z9
  rw [aaR, aaR, aaR]
  have e : (a - (a &&& b)) % 2 = 1 ↔ a % 2 = 1 ∧ ¬ b % 2 = 1 := by omega
  rw [ZZ]
  simp only [decide_eq_true_eq, Yz, YT, decide_eq_false_iff_not]
  exact e
 | x + 1, a, b => by
  have h1 : (a &&& b) % 2 = 1 ↔ a % 2 = 1 ∧ b % 2 = 1 := Nat.and_mod_two_eq_one
  have h2 : (a &&& b) / 2 = a / 2 &&& b / 2 := Nat.and_div_two
  have h3 : a / 2 &&& b / 2 ≤ a / 2 := Z9
  rw [aaQ, aaQ, aaQ, ← eJ x (a / 2) (b / 2)]
  congr 1
  omega
theorem ij {a : Nat} : a = 0 ↔ ∀ x, a.testBit x = false := ⟨fun h x => by rw [h, Zq], fun h => Zp fun x => by rw [h x, Zq]⟩
section
variable (wd : Nat → Nat) (T : Nat)
def cvr : List Nat → Nat → Nat → Option (List Nat)
 | [], _, left => cond (left == 0) (some []) none
 | t :: l, k, left => cond (left == 0) (some []) (match k with
  | 0 => none
  | k + 1 => cond (wd t &&& left == 0) (cvr l (k + 1) left) (match cvr l k (left - (left &&& wd t)) with
   | some r => some (t :: r)
   | none => cvr l (k + 1) left))
def chs : List Nat → Nat → Nat → Option (List Nat)
 | [], k, have_ => cond (k == 0) (cond (have_ == T) (some []) none) none
 | t :: l, k, have_ => match k with
  | 0 => cond (have_ == T) (some []) none
  | k + 1 => cond (decide (k + 1 ≤ l.length + 1)) (cond (wd t ^^^ (wd t &&& have_) == 0) (chs l (k + 1) have_) (match chs l k (have_ ||| wd t) with
   | some r => some (t :: r)
   | none => chs l (k + 1) have_)) none
def Cov (s : List Nat) (left : Nat) : Prop := ∀ x, left.testBit x = true → ∃ t ∈ s, (wd t).testBit x = true
theorem gr (l : List Nat) (k : Nat) : cvr wd l k 0 = some [] := by cases l <;> rfl
theorem yG (l : List Nat) (left : Nat) (h : left ≠ 0) : cvr wd l 0 left = none := by
 have : (left == 0) = false := by simpa using h
 cases l <;> unfold cvr <;> rw [this] <;> rfl
theorem m6 (t : Nat) (l : List Nat) (k left : Nat) (h : left ≠ 0) : cvr wd (t :: l) (k + 1) left = cond (wd t &&& left == 0) (cvr wd l (k + 1) left) (match cvr wd l k (left - (left &&& wd t)) with
      | some r => some (t :: r)
      | none => cvr wd l (k + 1) left) := by
  have : (left == 0) = false := by simpa using h
  rw [cvr, this, YB]
theorem Dx (k left : Nat) (h : left ≠ 0) : cvr wd [] k left = none := by
 have : (left == 0) = false := by simpa using h
 rw [cvr, this, YB]
theorem eF : ∀ (l : List Nat) (k left : Nat) (r : List Nat), cvr wd l k left = some r → (∀ t ∈ r, t ∈ l) ∧ r.length ≤ l.length ∧ r.length ≤ k ∧ Cov wd r left := by
 intro l
 induction l with
 | nil =>
  intro k left r h
  by_cases h0 : left = 0
  ·subst h0
   rw [gr, Yy] at h
   subst h
   exact ⟨fun t h => h, YG _, YV _, fun x hx => by rw [Zq] at hx; cases hx⟩
  ·rw [Dx wd k left h0] at h; cases h
 | cons t l ih =>
  intro k left r h
  by_cases h0 : left = 0
  ·subst h0
   rw [gr, Yy] at h
   subst h
   exact ⟨(fun t h => by cases h), YV _, YV _, fun x hx => by rw [Zq] at hx; cases hx⟩
  ·cases k with
   | zero => rw [yG wd _ _ h0] at h; cases h
   | succ k =>
    rw [m6 wd t l k left h0] at h
    have skip : cvr wd l (k + 1) left = some r → (∀ x ∈ r, x ∈ t :: l) ∧ r.length ≤ (t :: l).length ∧ r.length ≤ k + 1 ∧ Cov wd r left := fun h => by
     obtain ⟨h1, h2, h3, h4⟩ := ih (k + 1) left r h
     exact ⟨fun x hx => YL _ (h1 x hx), by rw [YQ]; omega, h3, h4⟩
    cases hc : (wd t &&& left == 0) with
    | true => rw [hc, YC] at h; exact skip h
    | false =>
     rw [hc, YB] at h
     cases hr : cvr wd l k (left - (left &&& wd t)) with
     | none => rw [hr] at h; exact skip h
     | some r' =>
      rw [hr, Yy] at h
      subst h
      obtain ⟨h1, h2, h3, h4⟩ := ih k _ r' hr
      refine ⟨fun x hx => ?_, by rw [YQ, YQ]; omega, by rw [YQ]; omega, fun x hx => ?_⟩
      ·rcases YN.1 hx with rfl | hx
       ·exact YW
       ·exact YL _ (h1 x hx)
      ·cases hb : (wd t).testBit x with
       | true => exact ⟨t, YW, hb⟩
       | false =>
        obtain ⟨u, hu, hux⟩ := h4 x (by rw [eJ, hx, hb]; rfl)
        exact ⟨u, YL _ hu, hux⟩
theorem qz : ∀ (l : List Nat) (k left : Nat) (s : List Nat), (∀ t ∈ s, t ∈ l) → s.length ≤ k → Cov wd s left → cvr wd l k left ≠ none := by
 intro l
 induction l with
 | nil =>
  intro k left s hs hk hc h
  by_cases h0 : left = 0
  ·subst h0; rw [gr] at h; cases h
  ·apply h0
   rw [ij]
   intro x
   cases hx : left.testBit x with
   | false => rfl
   | true =>
    obtain ⟨t, ht, _⟩ := hc x hx
    cases hs t ht
 | cons t l ih =>
  intro k left s hs hk hc h
  by_cases h0 : left = 0
  ·subst h0; rw [gr] at h; cases h
  ·have hne : s ≠ [] := by
    rintro rfl
    apply h0
    rw [ij]
    intro x
    cases hx : left.testBit x with
    | false => rfl
    | true =>
     obtain ⟨t, ht, _⟩ := hc x hx
     cases ht
   have hpos : 0 < s.length := List.length_pos_iff.2 hne
   obtain ⟨k, rfl⟩ : ∃ k', k = k' + 1 := ⟨k - 1, by omega⟩
   rw [m6 wd t l k left h0] at h
   have memf : ∀ u ∈ s.filter (· != t), u ∈ l := fun u hu => by
    rw [aaX] at hu
    rcases YN.1 (hs u hu.1) with rfl | h
    ·simp at hu
    ·exact h
   have skip : (∀ x, left.testBit x = true → (wd t).testBit x = false) ∨ t ∉ s → cvr wd l (k + 1) left = none → False := fun hh h => by
    rcases hh with hh | hh
    ·refine ih (k + 1) left (s.filter (· != t)) memf (Zd (List.length_filter_le _ _) hk) (fun x hx => ?_) h
     obtain ⟨u, hu, hux⟩ := hc x hx
     refine ⟨u, aaX.2 ⟨hu, ?_⟩, hux⟩
     have : u ≠ t := by rintro rfl; rw [hh x hx] at hux; cases hux
     simpa using this
    ·refine ih (k + 1) left s (fun u hu => ?_) hk hc h
     rcases YN.1 (hs u hu) with rfl | h
     ·exact absurd hu hh
     ·exact h
   cases hb : (wd t &&& left == 0) with
   | true =>
    rw [hb, YC] at h
    refine skip (Or.inl fun x hx => ?_) h
    have h1 := (ij.1 (eq_of_beq hb)) x
    rw [ZF, hx, aay] at h1
    exact h1
   | false =>
    rw [hb, YB] at h
    cases hr : cvr wd l k (left - (left &&& wd t)) with
    | some r => rw [hr] at h; cases h
    | none =>
     rw [hr] at h
     by_cases hm : t ∈ s
     ·refine ih k _ (s.filter (· != t)) memf ?_ (fun x hx => ?_) hr
      ·have : (s.filter (· != t)).length < s.length := by
        rw [List.length_filter_lt_length_iff_exists]
        exact ⟨t, hm, by simp⟩
       omega
      ·rw [eJ, Yz, YT] at hx
       obtain ⟨u, hu, hux⟩ := hc x hx.1
       refine ⟨u, aaX.2 ⟨hu, ?_⟩, hux⟩
       have : u ≠ t := by rintro rfl; rw [hx.2] at hux; cases hux
       simpa using this
     ·exact skip (Or.inr hm) h
theorem MX : ∀ (l : List Nat) (k have_ left : Nat), (∀ t ∈ l, ∀ x, (wd t).testBit x = true → T.testBit x = true) → (∀ x, have_.testBit x = true → T.testBit x = true) → (∀ x, left.testBit x = (T.testBit x && !have_.testBit x)) →
  (∀ s : List Nat, (∀ t ∈ s, t ∈ l) → s.length < k → ¬ Cov wd s left) → chs wd T l k have_ = cvr wd l k left := by
 have hz : ∀ (have_ left : Nat), (∀ x, have_.testBit x = true → T.testBit x = true) → (∀ x, left.testBit x = (T.testBit x && !have_.testBit x)) → (have_ == T) = (left == 0) := fun have_ left h1 h2 => by
  have : have_ = T ↔ left = 0 := by
   rw [ij]
   constructor
   ·rintro rfl x
    rw [h2]; cases have_.testBit x <;> rfl
   ·intro h
    refine Zp fun x => ?_
    have h3 := h x
    rw [h2] at h3
    have h4 := h1 x
    revert h3 h4
    cases T.testBit x <;> cases have_.testBit x <;> simp
  by_cases h : have_ = T
  ·rw [show (have_ == T) = true by simp [h], show (left == 0) = true by simp [this.1 h]]
  ·rw [show (have_ == T) = false by simp [h], show (left == 0) = false by simpa using fun h' => h (this.2 h')]
 intro l
 induction l with
 | nil =>
  intro k have_ left _ h1 h2 hm
  unfold chs cvr
  rw [hz have_ left h1 h2]
  cases k with
  | zero => rfl
  | succ k =>
   have h0 : left ≠ 0 := fun h0 => hm [] (fun t h => h) (Nat.zero_lt_succ k) (fun x hx => by rw [h0, Zq] at hx; cases hx)
   rw [show (left == 0) = false by simpa using h0]
   rfl
 | cons t l ih =>
  intro k have_ left hw h1 h2 hm
  cases k with
  | zero =>
   unfold chs cvr
   rw [hz have_ left h1 h2]
  | succ k =>
   have h0 : left ≠ 0 := fun h0 => hm [] (fun t h => by cases h) (Nat.zero_lt_succ k) (fun x hx => by rw [h0, Zq] at hx; cases hx)
   have hlow : ¬ (k + 1 ≤ l.length + 1) → cvr wd (t :: l) (k + 1) left = none := fun hlt => by
    cases hr : cvr wd (t :: l) (k + 1) left with
    | none => rfl
    | some r =>
     obtain ⟨a1, a2, a3, a4⟩ := eF wd _ _ _ r hr
     rw [YQ] at a2
     exact absurd a4 (hm r a1 (by omega))
   unfold chs
   dsimp only
   by_cases hlt : k + 1 ≤ l.length + 1
   ·rw [Yx hlt, YC, m6 wd t l k left h0]
    have hc : (wd t ^^^ (wd t &&& have_) == 0) = (wd t &&& left == 0) := by
     have : wd t ^^^ (wd t &&& have_) = wd t &&& left := by
      refine Zp fun x => ?_
      have h3 := hw t YW x
      rw [aaY, ZF, ZF, h2]
      revert h3
      cases (wd t).testBit x <;> cases T.testBit x <;> cases have_.testBit x <;> simp
     rw [this]
    rw [hc]
    have i1 : chs wd T l (k + 1) have_ = cvr wd l (k + 1) left := ih (k + 1) have_ left (fun u hu => hw u (YL _ hu)) h1 h2 (fun s hs hl => hm s (fun u hu => YL _ (hs u hu)) hl)
    have i2 : chs wd T l k (have_ ||| wd t) = cvr wd l k (left - (left &&& wd t)) := ih k _ _ (fun u hu => hw u (YL _ hu)) (fun x hx => by
      rw [aat, ZD] at hx
      exact hx.elim (h1 x) (hw t YW x)) (fun x => by
      rw [eJ, h2, aat]
      cases T.testBit x <;> cases have_.testBit x <;> cases (wd t).testBit x <;> rfl) (fun s hs hl hcv => by
      refine hm (t :: s) (fun u hu => ?_) (by rw [YQ]; omega) (fun x hx => ?_)
      ·rcases YN.1 hu with rfl | hu
       ·exact YW
       ·exact YL _ (hs u hu)
      ·cases hb : (wd t).testBit x with
       | true => exact ⟨t, YW, hb⟩
       | false =>
        obtain ⟨u, hu, hux⟩ := hcv x (by rw [eJ, hx, hb]; rfl)
        exact ⟨u, YL _ hu, hux⟩)
    rw [i1, i2]
   ·rw [YD hlt, YB, hlow hlt]
theorem Ba (l : List Nat) (hw : ∀ t ∈ l, ∀ x, (wd t).testBit x = true → T.testBit x = true) (k : Nat) (h : ∀ j, j < k → cvr wd l j T = none) : chs wd T l k 0 = cvr wd l k T :=
 MX wd T l k 0 T hw (fun x hx => by rw [Zq] at hx; cases hx) (fun x => by rw [Zq, Zx, aay]) (fun s hs hl hc => qz wd l s.length T s hs (YG _) hc (h s.length hl))
theorem uP (P : Nat → Nat → Prop) (l : List Nat) : ∀ J : Nat, ∃ s : List Nat, (∀ t ∈ s, t ∈ l) ∧ s.length ≤ J ∧ ∀ j, j < J → (∃ t ∈ l, P j t) → ∃ t ∈ s, P j t
 | 0 => ⟨[], (fun t h => by cases h), YG _, fun j h => absurd h (Zz _)⟩
 | J + 1 => by
  obtain ⟨s, h1, h2, h3⟩ := uP P l J
  by_cases hj : ∃ t ∈ l, P J t
  ·obtain ⟨t, ht, hp⟩ := hj
   refine ⟨t :: s, fun u hu => ?_, by rw [YQ]; omega, fun j hj he => ?_⟩
   ·rcases YN.1 hu with rfl | hu
    ·exact ht
    ·exact h1 u hu
   ·rcases YM j J with h | h
    ·obtain ⟨u, hu, hpu⟩ := h3 j h he
     exact ⟨u, YL _ hu, hpu⟩
    ·have : j = J := by omega
     subst this
     exact ⟨t, YW, hp⟩
  ·refine ⟨s, h1, by omega, fun j hj' he => ?_⟩
   rcases YM j J with h | h
   ·exact h3 j h he
   ·have : j = J := by omega
    subst this
    exact absurd he hj
end
end Go.Proofs.YtemihnclhcobnaaGreatDoor
namespace Go.Proofs.YtemihnclhcobnaaGreatDoor
open Go.Rv
variable {β : Type}
def wdO (n : Nat) (o : List (Nat × Nat)) (i : Nat) : Nat := aZ (fun x => x &&& (o.getD i (0, 0)).1 == (o.getD i (0, 0)).2) (2 ^ n)
theorem nR (n : Nat) (o : List (Nat × Nat)) (i x : Nat) : (wdO n o i).testBit x = (decide (x < 2 ^ n) && (x &&& (o.getD i (0, 0)).1 == (o.getD i (0, 0)).2)) := d8 _ _ _
theorem dA (o : List (Nat × Nat)) (i : Nat) (h : i < o.length) : o.getD i (0, 0) = o[i] := by simp [List.getD, h]
theorem pr1 : ∀ n : Nat, n ≤ 4 → ∀ x : Nat, x < 2 ^ n → (x &&& (2 ^ n - 1) == x) = true ∧ ∀ z : Nat, z < 2 ^ n → (z &&& (2 ^ n - 1) == x) = (z == x) := by decide +kernel
theorem pr2 : ∀ n : Nat, n ≤ 4 → ∀ x : Nat, x < 2 ^ n → x ^^^ 1 < 2 ^ n → ((x &&& (2 ^ n - 2)) &&& (2 ^ n - 2) == (x &&& (2 ^ n - 2))) = true ∧ ∀ z : Nat, z < 2 ^ n → (z &&& (2 ^ n - 2) == (x &&& (2 ^ n - 2))) = (z == x || z == x ^^^ 1) := by decide +kernel
theorem pr3 : ∀ x : Nat, x < 16 → ∀ z : Nat, z < 16 → (z / 2 == x / 2) = (z == x || z == x ^^^ 1) := by decide +kernel
theorem cY {n w x : Nat} (hw : w < 2 ^ 2 ^ n) (h : w.testBit x = true) : x < 2 ^ n := by
 rcases YM x (2 ^ n) with h1 | h1
 ·exact h1
 ·have : w < 2 ^ x := YJ hw (YE (by decide) h1)
  rw [aas this] at h
  cases h
theorem Jf {n w m v : Nat} (hv : v < 2 ^ n) (hm : (v &&& m == v) = true) (h : ∀ z, z < 2 ^ n → (z &&& m == v) = true → w.testBit z = true) : imp n w m v = true := by
 unfold imp
 rw [Yz, YT]
 constructor
 ·cases ha : cm (fun x => (x &&& m == v) && !w.testBit x) (2 ^ n) with
  | false => rfl
  | true =>
   obtain ⟨z, hz, hb⟩ := cW.1 ha
   rw [Yz, YT] at hb
   rw [h z hz hb.1] at hb
   cases hb.2
 ·exact cW.2 ⟨v, hv, by rw [hm, h v hv hm]; rfl⟩
theorem uQ (n w : Nat) (hn : n ≤ 4) (hw : w < 2 ^ 2 ^ n) (x : Nat) (hx : w.testBit x = true) : ∃ i ∈ List.range (prl n w (2 ^ n)).length, ∀ z, z / 2 = x / 2 → w.testBit z = true → (wdO n (prl n w (2 ^ n)) i).testBit z = true := by
 have hs : 2 ^ n ≤ 16 := (YE (by decide) hn : 2 ^ n ≤ 2 ^ 4)
 have hx2 := cY hw hx
 have key : ∀ m v : Nat, m < 2 ^ n → v < 2 ^ n → (v &&& m == v) = true → (∀ z, z < 2 ^ n → (z &&& m == v) = true → w.testBit z = true) → (∀ z, z / 2 = x / 2 → w.testBit z = true → (z &&& m == v) = true) → ∃ i ∈ List.range (prl n w (2 ^ n)).length, ∀ z, z / 2 = x / 2 → w.testBit z = true → (wdO n (prl n w (2 ^ n)) i).testBit z = true := by
  intro m v hm hv hmv h1 h2
  obtain ⟨m', v', g1, g2, g3, g4⟩ := Sb n w hn _ m v (Nat.lt_succ_self m) hm hmv (Jf hv hmv h1)
  have hle : v' ≤ m' := by rw [← eq_of_beq g2]; exact aag
  have hmem : (m', v') ∈ prl n w (2 ^ n) := (pV n w _ _).2 ⟨m', g1, v', by omega, g2, g3, rfl⟩
  obtain ⟨i, hi, he⟩ := List.getElem_of_mem hmem
  refine ⟨i, Zo.2 hi, fun z hz hb => ?_⟩
  have hz2 := cY hw hb
  rw [nR, dA _ i hi, he, Yx hz2, YI]
  dsimp only
  rw [g4 z (by omega) (eq_of_beq (h2 z hz hb)), beq_self_eq_true]
 cases hy : w.testBit (x ^^^ 1) with
 | true =>
  have hy2 := cY hw hy
  obtain ⟨p1, p2⟩ := pr2 n hn x hx2 hy2
  have hle : x &&& (2 ^ n - 2) ≤ x := Z9
  have hpos : 0 < 2 ^ n := Zn n
  refine key (2 ^ n - 2) (x &&& (2 ^ n - 2)) (by omega) (by omega) p1 (fun z hz h => ?_) (fun z hz hb => ?_)
  ·rw [p2 z hz, ZD, beq_iff_eq, beq_iff_eq] at h
   rcases h with rfl | rfl
   ·exact hx
   ·exact hy
  ·have hz2 := cY hw hb
   rw [p2 z hz2, ← pr3 x (by omega) z (by omega)]
   exact beq_iff_eq.2 hz
 | false =>
  obtain ⟨p1, p2⟩ := pr1 n hn x hx2
  have hpos : 0 < 2 ^ n := Zn n
  refine key (2 ^ n - 1) x (by omega) hx2 p1 (fun z hz h => ?_) (fun z hz hb => ?_)
  ·rw [p2 z hz, beq_iff_eq] at h
   rw [h]; exact hx
  ·have hz2 := cY hw hb
   rw [p2 z hz2]
   have h3 := pr3 x (by omega) z (by omega)
   rw [beq_iff_eq.2 hz] at h3
   have h4 := h3.symm
   rw [ZD, beq_iff_eq, beq_iff_eq] at h4
   rcases h4 with rfl | rfl
   ·exact beq_iff_eq.2 rfl
   ·rw [hy] at hb; cases hb
theorem V3 (n w : Nat) (hn : n ≤ 4) (hw : w < 2 ^ 2 ^ n) : cvr (wdO n (prl n w (2 ^ n))) (List.range (prl n w (2 ^ n)).length) 8 w ≠ none := by
 have hs : 2 ^ n ≤ 16 := (YE (by decide) hn : 2 ^ n ≤ 2 ^ 4)
 obtain ⟨s, h1, h2, h3⟩ := uP (fun j i => ∀ z, z / 2 = j → w.testBit z = true → (wdO n (prl n w (2 ^ n)) i).testBit z = true) (List.range (prl n w (2 ^ n)).length) 8
 refine qz _ _ 8 w s h1 h2 fun x hx => ?_
 have hx2 := cY hw hx
 obtain ⟨i, hi, hp⟩ := h3 (x / 2) (by omega) (uQ n w hn hw x hx)
 exact ⟨i, hi, hp x rfl hx⟩
theorem zB (n w : Nat) : ∀ i ∈ List.range (prl n w (2 ^ n)).length, ∀ x, (wdO n (prl n w (2 ^ n)) i).testBit x = true → w.testBit x = true := by
 intro i hi x hx
 have hi2 := Zo.1 hi
 rw [nR, dA _ i hi2, Yz, decide_eq_true_eq] at hx
 obtain ⟨m, h1, v, h2, h3, h4, h5⟩ := (pV n w _ _).1 (YS hi2)
 rw [h5] at hx
 unfold prm imp at h4
 rw [Yz, Yz, YT] at h4
 have h6 := h4.1.1
 cases hb : w.testBit x with
 | true => rfl
 | false =>
  have : cm (fun x => (x &&& m == v) && !w.testBit x) (2 ^ n) = true := cW.2 ⟨x, hx.1, by rw [hb]; dsimp only at hx; rw [hx.2]; rfl⟩
  rw [this] at h6
  cases h6
def lL (n w : Nat) : Nat → Nat → List Nat
 | 0, _ => []
 | d + 1, k => match cvr (wdO n (prl n w (2 ^ n))) (List.range (prl n w (2 ^ n)).length) k w with
  | some r => r
  | none => lL n w d (k + 1)
theorem wD (n w : Nat) : ∀ d k, (∀ i ∈ lL n w d k, i < (prl n w (2 ^ n)).length) ∧ (lL n w d k).length ≤ k + d
 | 0, k => ⟨(fun i h => by cases h), YV _⟩
 | d + 1, k => by
  unfold lL
  cases h : cvr (wdO n (prl n w (2 ^ n))) (List.range (prl n w (2 ^ n)).length) k w with
  | some r =>
   obtain ⟨h1, h2, h3, h4⟩ := eF _ _ _ _ r h
   exact ⟨fun i hi => Zo.1 (h1 i hi), by dsimp only; omega⟩
  | none =>
   obtain ⟨h1, h2⟩ := wD n w d (k + 1)
   exact ⟨h1, by dsimp only; omega⟩
def jf (n w : Nat) : List (Nat × Nat) := (lL n w 9 0).map fun i => (prl n w (2 ^ n)).getD i (0, 0)
end Go.Proofs.YtemihnclhcobnaaGreatDoor
namespace Go.Proofs.YtemihnclhcobnaaGreatDoor
open Go.Rv
set_option linter.unusedVariables false
variable {β : Type}
theorem KC (n w m v : Nat) (hv : v < 2 ^ n) (hm : (v &&& m == v) = true) : (aZ (fun x => x &&& m == v) (2 ^ n) &&& w == aZ (fun x => x &&& m == v) (2 ^ n)) = imp n w m v := by
 cases hi : imp n w m v with
 | true =>
  rw [beq_iff_eq]
  refine Zp fun x => ?_
  rw [ZF, d8]
  cases hx : (decide (x < 2 ^ n) && (x &&& m == v)) with
  | false => rw [YZ]
  | true =>
   rw [YI]
   rw [Yz, decide_eq_true_eq] at hx
   unfold imp at hi
   rw [Yz, YT] at hi
   cases hb : w.testBit x with
   | true => rfl
   | false =>
    have : cm (fun x => (x &&& m == v) && !w.testBit x) (2 ^ n) = true := cW.2 ⟨x, hx.1, by rw [hb, hx.2]; rfl⟩
    rw [this] at hi
    cases hi.1
 | false =>
  rw [beq_eq_false_iff_ne]
  intro e
  have : imp n w m v = true := Jf hv hm fun z hz hc => by
   have h : (aZ (fun x => x &&& m == v) (2 ^ n) &&& w).testBit z = (aZ (fun x => x &&& m == v) (2 ^ n)).testBit z := by rw [e]
   rw [ZF, d8, Yx hz, YI, hc, YI] at h
   exact h
  rw [this] at hi
  cases hi
theorem w63 {n w : Nat} (hn : n ≤ 4) (hw : w < 2 ^ 2 ^ n) : w < 65536 := by have := Ag n hn; omega
theorem jH (N : Nat) (hN : 1048576 < N) (n w m v : Nat) (hn : n ≤ 4) (hw : w < 2 ^ 2 ^ n) (hm : m < 32) (hv : v < 2 ^ n) (hmv : (v &&& m == v) = true) (K : Bool → Option β) : AK N (n : Int) (w : Int) (m : Int) (v : Int) K = K (imp n w m v) := by
 have h1 := dO (fun x => x &&& m == v) (2 ^ n)
 have h2 := Ag n hn
 have h3 := w63 hn hw
 unfold AK T9
 rw [f8 N hN n m v (by omega) hm, bAnd _ _ (by omega) (by omega), iO, KC n w m v hv hmv]
theorem DS : ∀ m : Nat, m < 32 → ∀ i : Nat, i < 5 → (m.testBit i = true → off m i = m - 2 ^ i ∧ 2 ^ i ≤ m) ∧ off m i = m - (m &&& 2 ^ i) ∧ (((m &&& 2 ^ i : Nat) : Int) != 0) = m.testBit i ∧ off m i ≤ m := by decide +kernel
theorem xj (N : Nat) (hN : 1048576 < N) (n w m v : Nat) (hn : n ≤ 4) (hw : w < 2 ^ 2 ^ n) (hm : m < 2 ^ n) (hv : v ≤ m) (hmv : (v &&& m == v) = true) (K : Bool → Option β) : AL N (n : Int) (w : Int) (m : Int) (v : Int) K = K (prm n w m v) := by
 have hs : 2 ^ n ≤ 16 := (YE (by decide) hn : 2 ^ n ≤ 2 ^ 4)
 unfold AL Ua prm
 rw [jH N hN n w m v hn hw (by omega) (by omega) hmv]
 cases imp n w m v with
 | false => rfl
 | true =>
  rw [YP, YB, YI]
  have key : ∀ (d i F : Nat), n - i = d → i ≤ n → d < F → cm (fun i => m.testBit i && imp n w (off m i) (off v i)) i = false → tI N F (i : Int) (n : Int) (w : Int) (m : Int) (v : Int) (fun e => K e) (K true) = K (!cm (fun i => m.testBit i && imp n w (off m i) (off v i)) n) := by
   intro d
   induction d with
   | zero =>
    intro i F hd hi hF ha
    obtain ⟨G, rfl⟩ : ∃ G, F = G + 1 := ⟨F - 1, by omega⟩
    simp only [tI, Uy, Qd]
    rw [YD (by omega), YB]
    have e : i = n := by omega
    subst e
    rw [ha]
    rfl
   | succ d ih =>
    intro i F hd hi hF ha
    obtain ⟨G, rfl⟩ : ∃ G, F = G + 1 := ⟨F - 1, by omega⟩
    obtain ⟨c1, c2, c3, c4⟩ := DS m (by omega) i (by omega)
    obtain ⟨d1, d2, d3, d4⟩ := DS v (by omega) i (by omega)
    have hb : 2 ^ i ≤ 16 := (YE (by decide) (by omega : i ≤ 4) : 2 ^ i ≤ 2 ^ 4)
    have hand : bits .and .i64 (m : Int) (bb .i64 1 (i : Int)) = ((m &&& 2 ^ i : Nat) : Int) := by rw [aO i (by omega), bAnd _ _ (by omega) (by omega)]
    have hv2 : bits .and .i64 (v : Int) (bb .i64 1 (i : Int)) = ((v &&& 2 ^ i : Nat) : Int) := by rw [aO i (by omega), bAnd _ _ (by omega) (by omega)]
    have hle : v &&& 2 ^ i ≤ v := Z9
    have next := ih (i + 1) G (by omega) (by omega) (by omega)
    simp only [tI, Uy, Qd]
    rw [Yx (by omega : (i : Int) < (n : Int)), YC, ab (Yx (by omega)), hand, c3, aB i (by omega)]
    cases hb : m.testBit i with
    | false => exact next (by rw [cm, ha, hb]; rfl)
    | true =>
     obtain ⟨c5, c6⟩ := c1 hb
     have hz : (0 : Int) ≤ ((2 ^ i : Nat) : Int) := Za _
     have e3 : w64 ((m : Int) - bb .i64 1 (i : Int)) = (off m i : Int) := by rw [c5, aO i (by omega), show (m : Int) - ((2 ^ i : Nat) : Int) = ((m - 2 ^ i : Nat) : Int) from (Int.ofNat_sub c6).symm, bW (by omega) (by omega)]
     have e4 : w64 ((v : Int) - ((v &&& 2 ^ i : Nat) : Int)) = (off v i : Int) := by rw [d2, show (v : Int) - ((v &&& 2 ^ i : Nat) : Int) = ((v - (v &&& 2 ^ i) : Nat) : Int) from (Int.ofNat_sub hle).symm, bW (by omega) (by omega)]
     have h4 := JD i (by omega) m (by omega) v (by omega)
     rw [hmv, YP, Z3] at h4
     rw [YC, e3, hv2, e4, jH N hN n w _ _ hn hw (by omega) (by omega) h4]
     cases hp : imp n w (off m i) (off v i) with
     | false => exact next (by rw [cm, ha, hb, hp]; rfl)
     | true =>
      have : cm (fun i => m.testBit i && imp n w (off m i) (off v i)) n = true := cW.2 ⟨i, by omega, by rw [hb, hp]; rfl⟩
      rw [this]
      rfl
  exact key n 0 N (by omega) (by omega) (by omega) rfl
theorem ge (N : Nat) (hN : 1048576 < N) (n w : Nat) (hn : n ≤ 4) (hw : w < 2 ^ 2 ^ n) (K : List (Int × Int) → Option β) : mX N (n : Int) (w : Int) K = K (tl (prl n w (2 ^ n))) := by
 have hs : 2 ^ n ≤ 16 := (YE (by decide) hn : 2 ^ n ≤ 2 ^ 4)
 have hz0 : (0 : Int) ≤ ((2 ^ n : Nat) : Int) := Za _
 unfold mX Ub
 refine bc (fun F m => oU N F (m : Int) (n : Int) (w : Int) (tl (prl n w m)) fun e => K e) (2 ^ n) _ (fun F m hm => ?_) (fun F => ?_) N 0 (by omega) (by omega)
 ·simp only [oU, UA, Qf]
  rw [ab (Yx (by omega)), aO n (by omega), Yx (by omega : (m : Int) < ((2 ^ n : Nat) : Int)), YC]
  have hl1 := eB n w m (by omega)
  refine (bc (fun H v => sV N H (m : Int) (v : Int) (n : Int) (w : Int) (tl (prl n w m ++ prr n w m v)) fun e0 e1 e2 e3 => oU N F (w64 (e0 + 1)) e1 e2 e3 fun e => K e) (m + 1) (oU N F ((m + 1 : Nat) : Int) (n : Int) (w : Int) (tl (prl n w (m + 1))) fun e => K e) (fun H v hv => ?_) (fun H => ?_) N 0 (by omega) (by omega) |> fun h => ZU (by rw [show prr n w m 0 = [] from rfl, YR]; rfl) h)
  ·have hl2 := pW n w m v
   simp only [sV, Uz, Qe]
   rw [Yx (by omega : (v : Int) ≤ (m : Int)), YC, AU v (by omega) m (by omega), aB v (by omega)]
   cases hc : (v &&& m == v) with
   | false => rw [YB, prr, hc, YZ, YB, YR]
   | true =>
    rw [YC, xj N hN n w m v hn hw hm (by omega) hc]
    cases hp : prm n w m v with
    | false => rw [YB, prr, hc, hp, aaE, YB, YR]
    | true =>
     rw [YC, ab (Yx (by rw [aR, YF]; simp; omega)), prr, hc, hp, aax, YC, Zt, show tl (prl n w m ++ prr n w m v) ++ [((m : Int), (v : Int))] = tl ((prl n w m ++ prr n w m v) ++ [(m, v)]) from (lG _ (m, v)).symm, Zg]
  ·simp only [sV, Uz, Qe]
   rw [YD (by omega), YB, aB m (by omega)]
   rfl
 ·simp only [oU, UA, Qf]
  rw [ab (Yx (by omega)), aO n (by omega), YD (by omega : ¬ ((2 ^ n : Nat) : Int) < ((2 ^ n : Nat) : Int)), YB]
def atO (o : List (Nat × Nat)) (r : List Nat) : List (Nat × Nat) := r.map fun i => o.getD i (0, 0)
theorem xh (N : Nat) (hN : 1048576 < N) (n w : Nat) (hn : n ≤ 4) (o : List (Nat × Nat)) (ho : Ts n o) (hol : o.length ≤ 1000) : ∀ (k F i left : Nat), k ≤ 100 → k < F → i ≤ o.length → left < 2 ^ 63 →
  ∀ K : List (Int × Int) → Bool → Option β, la N F (n : Int) (w : Int) (tl o) (i : Int) (left : Int) (k : Int) K = match cvr (wdO n o) (List.range' i (o.length - i)) k left with
   | some r => K (tl (atO o r)) true
   | none => K [] false := by
 intro k
 induction k with
 | zero =>
  intro F i left hk100 hF hi hleft K
  obtain ⟨G, rfl⟩ : ∃ G, F = G + 1 := ⟨F - 1, by omega⟩
  by_cases hl : left = 0
  ·subst hl
   rw [gr]
   simp only [la, LQ, Hp]
   rfl
  ·rw [yG _ _ _ hl]
   simp only [la, LQ, Hp]
   rw [show ((left : Int) == 0) = false by rw [beq_eq_false_iff_ne]; omega]
   rfl
 | succ k ih =>
  intro F i left hk100 hF hi hleft K
  obtain ⟨G, rfl⟩ : ∃ G, F = G + 1 := ⟨F - 1, by omega⟩
  by_cases hl : left = 0
  ·subst hl
   rw [gr]
   simp only [la, LQ, Hp]
   rfl
  ·have hlf : ((left : Int) == 0) = false := by rw [beq_eq_false_iff_ne]; omega
   have hk : (((k + 1 : Nat) : Int) == 0) = false := beq_eq_false_iff_ne.2 (by omega)
   have loop : ∀ (d H j : Nat), j + d = o.length → d < H → ∀ K : List (Int × Int) → Bool → Option β,
     tJ N (la N G) H (tl o) (left : Int) ((k + 1 : Nat) : Int) (j : Int) (n : Int) (w : Int) (fun e0 e1 => K e1 e0) (K [] false) = match cvr (wdO n o) (List.range' j d) (k + 1) left with
      | some r => K (tl (atO o r)) true
      | none => K [] false := by
    intro d
    induction d with
    | zero =>
     intro H j hd hH K
     obtain ⟨H, rfl⟩ : ∃ G, H = G + 1 := ⟨H - 1, by omega⟩
     rw [show List.range' j 0 = [] from rfl, Dx _ _ _ hl]
     simp only [tJ, UB, Qg, aR]
     rw [YD (by omega), YB]
    | succ d ihd =>
     intro H j hd hH K
     obtain ⟨H, rfl⟩ : ∃ G, H = G + 1 := ⟨H - 1, by omega⟩
     have hj : j < o.length := by omega
     obtain ⟨g1, g2, g3⟩ := ho o[j] (YS hj)
     have hwb : wdO n o j < 2 ^ 63 := by have h1 := dO (fun x => x &&& (o.getD j (0, 0)).1 == (o.getD j (0, 0)).2) (2 ^ n); have h2 := Ag n hn; unfold wdO; omega
     have e1 : ∀ K : Int → Option β, jg N (n : Int) (o[j].1 : Int) (o[j].2 : Int) K = K (wdO n o j : Int) := fun K => by
      unfold wdO
      rw [dA o j hj]
      exact f8 (β := β) N hN n o[j].1 o[j].2 (by omega) g2 K
     generalize hW : wdO n o j = W at hwb e1
     have e0 := ihd H (j + 1) (by omega) (by omega) K
     have hle : left &&& W ≤ left := Z9
     have ha : bits .and .i64 (W : Int) (left : Int) = ((W &&& left : Nat) : Int) := bAnd _ _ hwb hleft
     have hb : bits .and .i64 (left : Int) (W : Int) = ((left &&& W : Nat) : Int) := bAnd _ _ hleft hwb
     have hsub : w64 ((left : Int) - ((left &&& W : Nat) : Int)) = ((left - (left &&& W) : Nat) : Int) := by
      rw [show (left : Int) - ((left &&& W : Nat) : Int) = ((left - (left &&& W) : Nat) : Int) by omega, bW (by omega) (by omega)]
     have hk1 : w64 (((k + 1 : Nat) : Int) - 1) = (k : Int) := by rw [show ((k + 1 : Nat) : Int) - 1 = (k : Int) by omega]; exact bW (by omega) (by omega)
     have e2 := ih G (j + 1) (left - (left &&& W)) (by omega) (by omega) (by omega) (by omega)
     rw [show o.length - (j + 1) = d by omega] at e2
     rw [List.range'_succ, m6 _ _ _ _ _ hl, hW]
     simp only [tJ, UB, Qg, aR, hU o j hj]
     rw [Yx (by omega : (j : Int) < (o.length : Int)), YC, ab (Yx (by omega)), ab rfl, e1, ha, hb, hsub, hk1, aB j (by omega), e2, e0, show (((W &&& left : Nat) : Int) == 0) = (W &&& left == 0) from iO _ 0]
     cases h1 : (W &&& left == 0) with
     | true => rw [YC, YC]
     | false =>
      rw [YB, YB]
      cases h2 : cvr (wdO n o) (List.range' (j + 1) d) k (left - (left &&& W)) with
      | none => dsimp only; rw [YB]
      | some r1 =>
       have hr := (eF _ _ _ _ r1 h2).2.2.1
       dsimp only
       rw [YC, ab (Yx (by omega)), ab rfl, ab (Yx (by rw [aR]; unfold atO; simp; omega))]
       have ea : atO o (j :: r1) = o[j] :: atO o r1 := by unfold atO; rw [Zh, dA o j hj]
       show _ = K (tl (atO o (j :: r1))) true
       rw [ea]
       rfl
   simp only [la, LQ, Hp]
   rw [hlf, hk, YB, YB]
   exact loop (o.length - i) N i (by omega) (by omega) K
theorem nM (N : Nat) (hN : 1048576 < N) (n w : Nat) (hn : n ≤ 4) (hw : w < 2 ^ 2 ^ n) : ∃ b : Bool, ∀ K : List (Int × Int) → Bool → Option β, Hq N (n : Int) (w : Int) K = K (tl (jf n w)) b := by
 have hs : 2 ^ n ≤ 16 := (YE (by decide) hn : 2 ^ n ≤ 2 ^ 4)
 have hl := eB n w (2 ^ n) hs
 have hw6 := w63 hn hw
 unfold Hq Uc
 have loop : ∀ (d F k : Nat), k + d = 9 → d < F → ∃ b : Bool, ∀ K : List (Int × Int) → Bool → Option β, sW N F (k : Int) (n : Int) (w : Int) (tl (prl n w (2 ^ n))) (fun e0 e1 => K e1 e0) (K [] false) = K (tl (atO (prl n w (2 ^ n)) (lL n w d k))) b := by
  intro d
  induction d with
  | zero =>
   intro F k hd hF
   obtain ⟨G, rfl⟩ : ∃ G, F = G + 1 := ⟨F - 1, by omega⟩
   refine ⟨false, fun K => ?_⟩
   simp only [sW, Qw, Lo]
   rw [YD (by omega), YB]
   rfl
  | succ d ih =>
   intro F k hd hF
   obtain ⟨G, rfl⟩ : ∃ G, F = G + 1 := ⟨F - 1, by omega⟩
   have e2 := fun K => xh (β := β) N hN n w hn (prl n w (2 ^ n)) (jC n w hn) (by omega) k N 0 w (by omega) (by omega) (by omega) (by omega) K
   rw [aaU, ← List.range_eq_range'] at e2
   obtain ⟨b, e3⟩ := ih G (k + 1) (by omega) (by omega)
   cases hc : cvr (wdO n (prl n w (2 ^ n))) (List.range (prl n w (2 ^ n)).length) k w with
   | some r =>
    refine ⟨true, fun K => ?_⟩
    simp only [sW, Qw, Lo]
    rw [Yx (by omega : (k : Int) ≤ 8), YC]
    refine (e2 _).trans ?_
    rw [hc, lL, hc]
    rfl
   | none =>
    refine ⟨b, fun K => ?_⟩
    simp only [sW, Qw, Lo]
    rw [Yx (by omega : (k : Int) ≤ 8), YC]
    refine (e2 _).trans ?_
    rw [hc, lL, hc]
    dsimp only
    rw [YB, aB k (by omega), e3]
 obtain ⟨b, e⟩ := loop 9 N 0 rfl (by omega)
 refine ⟨b, fun K => ?_⟩
 rw [bm, tt (by omega) hw, YP, YB, YD (by omega), YB, ge N hN n w hn hw]
 exact e K
end Go.Proofs.YtemihnclhcobnaaGreatDoor
namespace Go.Proofs.YtemihnclhcobnaaGreatDoor
open Go.Rv
set_option linter.unusedSimpArgs false
set_option linter.unusedSectionVars false
variable {β : Type}
section
variable (N : Nat) (hN : 1048576 < N) {n : Nat} (hn : n ≤ 3) {T : List Int} (hT : tj n T) {w : Nat} (hw : w < 2 ^ 2 ^ n) (g : Nat → List UInt8) (hg : ∀ x, (g x).length ≤ 1000)
include hN hn hT hw hg
theorem o8 (o : Bool) (self : Int → Int → List Int → (ByteArray → Option β) → Option β) (hs : ∀ x, x < 2 ^ 2 ^ n → 1 ≤ gt T x → gt T x < gt T w → ∀ K, self (n : Int) (x : Int) T K = K (B (g x))) (x2 x3 : Int) (x9 : List Int) (k0 : ByteArray → Option β) (k1 : List Int → Int → Int → Int → Int → List Int → Option β) :
  ∀ (d F i : Nat), i + d = 2 ^ 2 ^ n → d < F → iu N self F T (cond o 38 124) x2 x3 T (T.length : Int) (i : Int) (n : Int) (w : Int) x9 k0 k1 =
   match bC T o w (2 ^ 2 ^ n) d i with
   | some (a, b) => k0 (B (cond o 38 124 :: g a ++ g b))
   | none => k1 T x2 x3 (n : Int) (w : Int) x9
 | d, 0, _, _, h => absurd h (Zz _)
 | 0, F + 1, i, hi, _ => by
  have hL := hT.len
  obtain rfl : i = 2 ^ 2 ^ n := by omega
  show AH N self T (cond o 38 124) x2 x3 T (T.length : Int) _ (n : Int) (w : Int) x9 _ k0 k1 = _
  unfold AH EL
  rw [YD (by omega)]
  rfl
 | d + 1, F + 1, i, hi, hF => by
  have hL := hT.len
  have hlw := hT.le w
  have hL2 : 2 ^ 2 ^ n ≤ 256 := by
   obtain rfl | rfl | rfl | rfl : n = 0 ∨ n = 1 ∨ n = 2 ∨ n = 3 := by omega
   all_goals decide
  have ih := o8 o self hs x2 x3 x9 k0 k1 d F (i + 1) (by omega) (by omega)
  show AH N self T (cond o 38 124) x2 x3 T (T.length : Int) (i : Int) (n : Int) (w : Int) x9 _ k0 k1 = _
  unfold AH EL
  rw [Yx (by omega : (i : Int) < (T.length : Int)), YC, ab (Yx (by omega)), ab rfl, ab (Yx (by omega)), ab (Yx (by omega)), jF, jF, aB i (by omega)]
  have hp : bC T o w (2 ^ 2 ^ n) (d + 1) i = cond (decide (1 ≤ gt T i) && decide (gt T i < gt T w)) (match cZ T o w i (2 ^ 2 ^ n) 0 with | some b => some (i, b) | none => bC T o w (2 ^ 2 ^ n) d (i + 1)) (bC T o w (2 ^ 2 ^ n) d (i + 1)) := rfl
  rw [hp]
  by_cases e0 : 1 ≤ gt T i
  ·rw [YD (by omega : ¬ gt T i < 1), YB, Yx e0, YI]
   by_cases e1 : gt T i < gt T w
   ·rw [YD (by omega : ¬ gt T i ≥ gt T w), YB, Yx e1, YC]
    have hb := pa N hN hn hT hw (by omega : i < 2 ^ 2 ^ n) g hg e0 e1 o self hs x2 x3 T (T.length : Int) (i : Int) x9 k0 (fun e0 e1 e2 e3 e4 e5 e6 e7 e8 e9 => iu N self F e0 e1 e2 e3 e4 e5 (w64 (e6 + 1)) e7 e8 e9 k0 k1) (2 ^ 2 ^ n) N 0 (by omega) (by omega)
    refine ZU hb ?_
    cases cZ T o w i (2 ^ 2 ^ n) 0 with
    | some b => rfl
    | none =>
     show iu N self F T (cond o 38 124) x2 x3 T (T.length : Int) (w64 ((i : Int) + 1)) (n : Int) (w : Int) x9 k0 k1 = _
     rw [aB i (by omega)]
     exact ih
   ·rw [Yx (by omega : gt T i ≥ gt T w), YC, YD e1, YB]
    exact ih
  ·rw [Yx (by omega : gt T i < 1), YC, YD e0, YZ, YB]
   exact ih
theorem ze (self : Int → Int → List Int → (ByteArray → Option β) → Option β) (hs : ∀ x, x < 2 ^ 2 ^ n → 1 ≤ gt T x → gt T x < gt T w → ∀ K, self (n : Int) (x : Int) T K = K (B (g x))) (k0 : ByteArray → Option β) (k1 : Option β) :
  fR N self N T 2 0 (n : Int) (w : Int) [38, 124] k0 k1 =
   match bC T true w (2 ^ 2 ^ n) (2 ^ 2 ^ n) 0 with
   | some (a, b) => k0 (B (38 :: g a ++ g b))
   | none => match bC T false w (2 ^ 2 ^ n) (2 ^ 2 ^ n) 0 with
    | some (a, b) => k0 (B (124 :: g a ++ g b))
    | none => k1 := by
 obtain ⟨M, rfl⟩ : ∃ M, N = M + 3 := ⟨N - 3, by omega⟩
 have hL2 : 2 ^ 2 ^ n ≤ 256 := by
  obtain rfl | rfl | rfl | rfl : n = 0 ∨ n = 1 ∨ n = 2 ∨ n = 3 := by omega
  all_goals decide
 have ha := fun o x3 k0 (k1 : List Int → Int → Int → Int → Int → List Int → Option β) => o8 (M + 3) hN hn hT hw g hg o self hs 2 x3 [38, 124] k0 k1 (2 ^ 2 ^ n) (M + 3) 0 (by omega) (by omega)
 show AI (M + 3) self T 2 0 (n : Int) (w : Int) [38, 124] (fun v0 v1 v2 v3 v4 v5 => fR (M + 3) self (M + 2) v0 v1 v2 v3 v4 v5 k0 k1) k0 k1 = _
 unfold AI EM
 refine ZU (ha true 0 _ _) ?_
 cases bC T true w (2 ^ 2 ^ n) (2 ^ 2 ^ n) 0 with
 | some p => rfl
 | none =>
  show AI (M + 3) self T 2 1 (n : Int) (w : Int) [38, 124] (fun v0 v1 v2 v3 v4 v5 => fR (M + 3) self (M + 1) v0 v1 v2 v3 v4 v5 k0 k1) k0 k1 = _
  unfold AI EM
  refine ZU (ha false 1 _ _) ?_
  cases bC T false w (2 ^ 2 ^ n) (2 ^ 2 ^ n) 0 with
  | some p => rfl
  | none => rfl
end
theorem sP : ∀ n, n ≤ 3 → ∀ w, w < 2 ^ 2 ^ n → w ^^^ (2 ^ 2 ^ n - 1) = full n - w ∧ w ≤ full n ∧ full n < 256 := by decide +kernel
theorem uv (N : Nat) {n w : Nat} (hn : n ≤ 3) (hw : w < 2 ^ 2 ^ n) (K : Int → Int → Option β) : ir N (n : Int) (w : Int) K = K (n : Int) ((full n - w : Nat) : Int) := by
 obtain ⟨h1, h2, h3⟩ := sP n hn w hw
 have hs : 2 ^ n ≤ 8 := (YE (by decide) hn : 2 ^ n ≤ 2 ^ 3)
 have hfu : full n = 2 ^ 2 ^ n - 1 := rfl
 have hp : 0 < 2 ^ 2 ^ n := Zn _
 have hz : (0 : Int) ≤ ((2 ^ n : Nat) : Int) := Za _
 unfold ir Lc
 rw [cP N n _ (by omega), ab (Yx (by omega)), aO (2 ^ n) (by omega), show w64 (((2 ^ 2 ^ n : Nat) : Int) - 1) = ((2 ^ 2 ^ n - 1 : Nat) : Int) by rw [bW (by omega) (by omega)]; omega, V1 w _ (by omega) (by omega), h1]
theorem FX (N : Nat) (hN : 64 < N) {n i : Nat} (hn : n ≤ 3) (hi : i < n) (K : Int → Int → Option β) : tF N (n : Int) (i : Int) K = K (n : Int) (vw n i : Int) := by
 have hs : 2 ^ n ≤ 8 := (YE (by decide) hn : 2 ^ n ≤ 2 ^ 3)
 unfold tF T3
 rw [ez N hN n (by omega) _ (fun x => x.testBit i) (fun x k hx => by
  unfold zj0 zb0
  rw [ab (Yx (by omega)), fT x i (by omega)]
  cases x.testBit i <;> rfl), CH n hn i hi]
theorem Sm (i : Nat) (h : i < 3) : aj (([] : List Int) ++ [w8 (97 + w8 (i : Int))]) = B [UInt8.ofNat (97 + i)] := by
 obtain rfl | rfl | rfl : i = 0 ∨ i = 1 ∨ i = 2 := by omega
 all_goals rfl
theorem zd (N : Nat) (hN : 1048576 < N) {n : Nat} (hn : n ≤ 3) {w : Nat} (hw : w < 2 ^ 2 ^ n) (T : List Int) (k0 : ByteArray → Option β) (k1 : List Int → Int → Int → Option β) :
  ∀ (d F i : Nat), i + d = n → d < F → kZ N F T (n : Int) (i : Int) (n : Int) (w : Int) k0 k1 = match om n w d i with
   | some s => k0 (B s)
   | none => k1 T (n : Int) (w : Int)
 | d, 0, _, _, h => absurd h (Zz _)
 | 0, F + 1, i, hi, _ => by
  obtain rfl : i = n := by omega
  show AF N T (i : Int) (i : Int) (i : Int) (w : Int) _ k0 k1 = _
  unfold AF EJ
  rw [YD (by omega)]
  rfl
 | d + 1, F + 1, i, hi, hF => by
  have ih := zd N hN hn hw T k0 k1 d F (i + 1) (by omega) (by omega)
  have hv := Er n hn i (by omega)
  show AF N T (n : Int) (i : Int) (n : Int) (w : Int) _ k0 k1 = _
  unfold AF EJ
  rw [Yx (by omega : (i : Int) < (n : Int)), YC, FX N (by omega) hn (by omega), uv N hn (by omega), Sm i (by omega), aB i (by omega), show aj [33] = B [33] from rfl, gs2 _ _ (by simp), bX, beq_self_eq_true, YI, YI, iO, iO]
  have hl : om n w (d + 1) i = cond (w == vw n i) (some [UInt8.ofNat (97 + i)]) (cond (w == full n - vw n i) (some [33, UInt8.ofNat (97 + i)]) (om n w d (i + 1))) := rfl
  rw [hl]
  cases w == vw n i with
  | true => rfl
  | false =>
   rw [YB, YB]
   cases w == full n - vw n i with
   | true => rfl
   | false => exact ih
theorem MV (x : Nat) : bw 0 x = 0 := by unfold bw; rw [Zq]; rfl
theorem MU : ∀ n, n ≤ 3 → bw (full n) 0 = 1 := by decide +kernel
theorem Bi (N : Nat) {n w : Nat} (hn : n ≤ 3) (hw : w < 2 ^ 2 ^ n) (K : Bool → Option β) : l9 N (n : Int) (w : Int) K = K (w == 0 || w == full n) := by
 obtain ⟨h1, h2, h3⟩ := sP n hn w hw
 unfold l9 Ld
 rw [uv N hn hw, show ((w : Int) == 0) = (w == 0) from iO w 0, show (((full n - w : Nat) : Int) == 0) = (w == full n) by
  rw [show (((full n - w : Nat) : Int) == 0) = (full n - w == 0) from iO _ 0, ZZ, beq_iff_eq, beq_iff_eq]; omega]
 cases w == 0 <;> rfl
theorem qV {N : Nat} (hN : 1048576 < N) {n : Nat} (hn : n ≤ 3) {T : List Int} (hT : tj n T) : ∀ (F w : Nat), w < 2 ^ 2 ^ n → gt T w < F → ∀ K : ByteArray → Option β, cL N F (n : Int) (w : Int) T K = K (B (fmF T n F w))
 | 0, w, _, h, _ => by have := hT.le w; have := hT.len; omega
 | F + 1, w, hw, hF, K => by
  have hL := hT.len
  obtain ⟨h1, h2, h3⟩ := sP n hn w hw
  have hs : ∀ x, x < 2 ^ 2 ^ n → 1 ≤ gt T x → gt T x < gt T w → ∀ K : ByteArray → Option β, cL N F (n : Int) (x : Int) T K = K (B (fmF T n F x)) := fun x hx _ h2 K => qV hN hn hT F x hx (by omega) K
  show LJ N (cL N F) (n : Int) (w : Int) T K = _
  unfold LJ Lf fmF
  rw [Bi N hn hw]
  cases h0 : w == 0 with
  | true =>
   have : w = 0 := by simpa using h0
   subst this
   rw [Bool.true_or, YC, YC]
   have ha := cK (β := β) N 0 0 (n : Int) (by omega) fun r5 => dx N r5 K
   refine ZU ha ?_
   rw [MV, bT N _ (by unfold mu; omega)]
   have hi : Lib.itoa ((0 : Nat) : Int) = [48] := qZ false
   rw [hi]
  | false =>
   rw [Z3, YB]
   cases h1 : w == full n with
   | true =>
    have : w = full n := by simpa using h1
    subst this
    rw [YC, YC]
    have ha := cK (β := β) N (full n) 0 (n : Int) (by omega) fun r5 => dx N r5 K
    refine ZU ha ?_
    rw [MU n hn, bT N _ (by unfold mu; omega)]
    have hi : Lib.itoa ((1 : Nat) : Int) = [49] := qZ true
    rw [hi]
   | false =>
    rw [YB, YB, ab (Yx (by omega)), ab (Yx (by omega)), jF]
    have ho := ze N hN hn hT hw (fmF T n F) (pJ hT F) (cL N F) hs (fun e => K e) (K ByteArray.empty)
    have tail : fR N (cL N F) N T 2 0 (n : Int) (w : Int) [38, 124] (fun e => K e) (K ByteArray.empty) = K (B (match bC T true w (2 ^ 2 ^ n) (2 ^ 2 ^ n) 0 with
     | some (a, b) => 38 :: fmF T n F a ++ fmF T n F b
     | none => match bC T false w (2 ^ 2 ^ n) (2 ^ 2 ^ n) 0 with
      | some (a, b) => 124 :: fmF T n F a ++ fmF T n F b
      | none => [])) := by
     refine ZU ho ?_
     cases bC T true w (2 ^ 2 ^ n) (2 ^ 2 ^ n) 0 with
     | some p => rfl
     | none =>
      cases bC T false w (2 ^ 2 ^ n) (2 ^ 2 ^ n) 0 with
      | some p => rfl
      | none => rfl
    by_cases e1 : gt T w = 1
    ·rw [show (gt T w == 1) = true by simp [e1], YC, Yx e1, YC]
     refine ZU (zd N hN hn hw T (fun e => K e) _ n N 0 (by omega) (by omega)) ?_
     cases om n w n 0 with
     | some s => rfl
     | none => exact tail
    ·rw [show (gt T w == 1) = false by simp [e1], YB, YD e1, YB]
     exact tail
end Go.Proofs.YtemihnclhcobnaaGreatDoor
namespace Go.Proofs.YtemihnclhcobnaaGreatDoor
open Go.Rv
set_option linter.unusedSimpArgs false
set_option linter.unusedVariables false
variable {β : Type}
theorem lN (N : Nat) (hN : 1048576 < N) (n w : Nat) (hn : n ≤ 5) (hw : w < 2 ^ 2 ^ n) : (∀ K : ByteArray → Bool → Option β, vq N (n : Int) (w : Int) K = cond (decide (n ≤ 3)) (K (B (fmF (szT n) n N w)) true) (K (B []) false)) ∧ (∀ K : ByteArray → Bool → Option β, vF N (n : Int) (w : Int) K = cond (decide (n ≤ 3)) (K (B (fmF (szT n) n N w)) true) (K (B []) false)) := by
 have hs : 2 ^ n ≤ 32 := (YE (by decide) hn : 2 ^ n ≤ 2 ^ 5)
 have hw32 : w < 2 ^ 32 := YJ hw (YE (by decide) hs)
 constructor
 ·intro K
  unfold vq KN
  rw [bm, tt hn hw, YP, YB]
  by_cases h3 : n ≤ 3
  ·have hT := xn h3
   have hl := hT.le w
   rw [YD (by omega : ¬ (n : Int) > 3), YB, Yx h3, YC]
   unfold lX Ri
   rw [ab (Yx (by omega)), ab (Yx (by omega)), Zb]
   exact sy hN h3 hT N w hw (by omega) _
  ·rw [Yx (by omega : (n : Int) > 3), YC, YD h3, YB, tQ]
 ·intro K
  unfold vF Lg el sR
  rw [bH N _ _ (by omega), tt hn hw, YC]
  by_cases h3 : n ≤ 3
  ·have hT := xn h3
   have hl := hT.le w
   rw [Yx (by omega : (n : Int) ≤ 3)]
   dsimp only
   rw [YP, YB, Yx h3, YC]
   unfold iL Ro
   rw [ab (Yx (by omega)), ab (Yx (by omega)), Zb]
   exact qV hN h3 hT N w hw (by omega) _
  ·rw [YD (by omega : ¬ (n : Int) ≤ 3)]
   dsimp only
   rw [Zx, YC, YD h3, YB, tQ]
end Go.Proofs.YtemihnclhcobnaaGreatDoor
