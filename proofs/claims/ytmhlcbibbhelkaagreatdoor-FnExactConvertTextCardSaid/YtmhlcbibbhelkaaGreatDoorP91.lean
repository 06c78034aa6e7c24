/- Plain laws of the texts. -/
import Derived.Test.YtmhlcbibbhelkaaGreatDoorT0
import Derived.Test.YtmhlcbibbhelkaaGreatDoorRvNum
import Derived.Test.YtmhlcbibbhelkaaGreatDoorSizT
namespace Go.Proofs.YtmhlcbibbhelkaaGreatDoor
open Go.Rv

variable {β : Type}
end Go.Proofs.YtmhlcbibbhelkaaGreatDoor
namespace Go.Proofs.YtmhlcbibbhelkaaGreatDoor
open Go.Rv
variable {β : Type}

end Go.Proofs.YtmhlcbibbhelkaaGreatDoor
namespace Go.Proofs.YtmhlcbibbhelkaaGreatDoor
open Go.Rv
set_option linter.unusedVariables false
variable {β : Type}
def aQ (g : Nat → Bool) : Nat → Nat
 | 0 => 0
 | i + 1 => aQ g i ||| (if g i then 2 ^ i else 0)
theorem bT (g : Nat → Bool) : ∀ i, aQ g i < 2 ^ i
 | 0 => by simp [aQ]
 | i + 1 => by
  have := bT g i
  unfold aQ
  have h2 : 2 ^ (i + 1) = 2 ^ i + 2 ^ i := by rw [Nat.pow_succ]; omega
  refine ahK (by omega) ?_
  split
  ·have := ahJ i; omega
  ·exact ahJ _
theorem us {g h : Nat → Bool} : ∀ {n : Nat}, (∀ i, i < n → g i = h i) → aQ g n = aQ h n
 | 0, _ => rfl
 | n + 1, e => by
  unfold aQ
  rw [us (n := n) fun i hi => e i (by omega), e n (by omega)]

theorem qH {n : Nat} (h : n ≤ 62) : 2 ^ n < 9223372036854775808 := Nat.lt_of_le_of_lt (ag6 (by decide) h) (by decide)
theorem bd {n : Nat} (h : n ≤ 5) : 2 ^ n ≤ 32 := ahy (ag6 (by decide) h) (by decide)

theorem aM (n : Nat) (h : n ≤ 62) : aW .i64 1 (n : Int) = ((2 ^ n : Nat) : Int) := by
 have := se 1 n (by omega) (by rw [aja]; exact qH h)
 rw [aja] at this
 exact this

theorem tC (N : Nat) (h : Int → (Bool → Option β) → Option β) (g : Nat → Bool) (m : Nat) (hm : m ≤ 32) (hh : ∀ (x : Nat) k, x < m → h (x : Int) k = k (g x)) (k0 : Int → Int → Int → Int → Option β) (a b n : Int) :
  ∀ (F i : Nat), m - i < F → i ≤ m → eT N h F (m : Int) (i : Int) a b n (aQ g i : Int) k0 = k0 a b n (aQ g m : Int) := by
 intro F
 induction F with
 | zero => intro i hF; omega
 | succ F ih =>
  intro i hF hi
  simp only [eT, acu, CL]
  by_cases hlt : i < m
  ·rw [agW (by omega : (i : Int) < (m : Int))]
   simp only [agY, hh i _ hlt]
   have h1 := ih (i + 1) (by omega) (by omega)
   rw [aw i (by omega)]
   have hw : aQ g i < 2 ^ 63 := ag9 (bT g i) (ag6 (by decide) (by omega))
   cases hg : g i with
   | true =>
    have e : aQ g (i + 1) = aQ g i ||| 2 ^ i := by simp [aQ, hg]
    rw [e] at h1
    simp only [agY, ab (agW (by omega : 0 ≤ (i : Int)))]
    rw [aM i (by omega), bOr _ _ hw (ahE (by decide) (by omega))]
    exact h1
   | false =>
    have e : aQ g (i + 1) = aQ g i := by simp [aQ, hg]
    rw [e] at h1
    exact h1
  ·have : i = m := by omega
   subst this
   rw [ag1 (by omega : ¬ (i : Int) < (i : Int))]
   rfl

theorem b6 (N : Nat) (hN : 64 < N) (n : Nat) (hn : n ≤ 5) (h : Int → (Bool → Option β) → Option β) (g : Nat → Bool) (hh : ∀ (x : Nat) k, x < 2 ^ n → h (x : Int) k = k (g x)) (k : Int → Int → Option β) :
  fK N (n : Int) h k = k n (aQ g (2 ^ n) : Int) := by
 unfold fK CM
 rw [ab (agW (by omega)), aM n (by omega)]
 have := bd hn
 exact tC N h g (2 ^ n) this hh (fun _ _ e2 e3 => k e2 e3) 0 0 n N 0 (by omega) (ahr _)

def ys (x i b : Nat) : Nat := x - (x &&& 2 ^ i) + b * 2 ^ i
theorem gv (w y : Nat) (hw : w < 9223372036854775808) : bits .and .i64 (cX .i64 (w : Int) (y : Int)) 1 = ((if w.testBit y then 1 else 0 : Nat) : Int) := by
 rw [Gf w y hw]
 have h1 : w / 2 ^ y < 2 ^ 63 := Nat.lt_of_le_of_lt (Nat.div_le_self _ _) hw
 have := bAnd (w / 2 ^ y) 1 h1 (by decide)
 rw [show ((1 : Nat) : Int) = 1 from rfl] at this
 rw [this, Nat.and_one_is_mod]
 congr 1
 rw [Nat.testBit, Nat.shiftRight_eq_div_pow, Nat.and_comm, Nat.and_one_is_mod]
 have := Nat.mod_two_eq_zero_or_one (w / 2 ^ y)
 rcases this with h | h <;> simp [h]

def isT (a0 a1 : Int) : Bool := decide (0 ≤ a0) && decide (a0 ≤ 5) && decide (0 ≤ a1) && decide (a1 < 2 ^ 2 ^ a0.toNat)

theorem yA {a0 a1 : Int} (h : isT a0 a1 = true) : ∃ n w : Nat, a0 = n ∧ a1 = w ∧ n ≤ 5 ∧ w < 2 ^ 2 ^ n ∧ w < 4294967296 := by
 simp only [isT, agZ, decide_eq_true_eq] at h
 obtain ⟨⟨⟨h1, h2⟩, h3⟩, h4⟩ := h
 obtain ⟨n, rfl⟩ := ahS h1
 obtain ⟨w, rfl⟩ := ahS h3
 simp only [ahb] at h4
 have h5 : w < 2 ^ 2 ^ n := by exact_mod_cast h4
 have h6 : 2 ^ 2 ^ n ≤ 2 ^ 32 := ag6 (by decide) (bd (by omega))
 exact ⟨n, w, rfl, rfl, by omega, h5, by omega⟩

theorem Ga : ∀ n : Nat, n ≤ 5 → aW .u64 1 (n : Int) = ((2 ^ n : Nat) : Int) := by decide +kernel

theorem bv (N : Nat) (a0 a1 : Int) (k : Bool → Option β) : eU N a0 a1 k = k (isT a0 a1) := by
 unfold eU ZV bK Sf
 by_cases h0 : 0 ≤ a0
 ·rw [agW (by omega : a0 ≥ 0)]
  simp only [agY]
  by_cases h5 : a0 ≤ 5
  ·rw [agW h5]
   obtain ⟨n, rfl⟩ := ahS h0
   have hn : n ≤ 5 := by omega
   have hs := bd hn
   have hp := qH (n := 2 ^ n) (by omega)
   have hpos := ahJ (2 ^ n)
   simp only [agY]
   rw [ab rfl, Ga n hn, ab (agW (ahi _)), aM (2 ^ n) (by omega), bp (by omega) (by omega)]
   have e : isT (n : Int) a1 = (decide (0 ≤ a1) && decide (a1 < ((2 ^ 2 ^ n : Nat) : Int))) := by
    simp only [isT, ahb, agW (by omega : 0 ≤ (n : Int)), agW (by omega : (n : Int) ≤ 5), ag8]
    push_cast
    rfl
   rw [e]
   by_cases h1 : 0 ≤ a1
   ·rw [agW (by omega : a1 ≥ 0)]
    simp only [agY, ag8]
    congr 1
    exact decide_eq_decide.2 (by omega)
   ·rw [ag1 (by omega : ¬ a1 ≥ 0)]; rfl
  ·rw [ag1 h5]
   simp [isT, h5]
 ·rw [ag1 (by omega : ¬ a0 ≥ 0)]
  simp [isT, h0]

theorem bZ (N : Nat) (a0 a1 : Int) (h : a1 < 9223372036854775808) (k : Bool → Option β) : ge N a0 a1 k = k (isT a0 a1) := by
 unfold ge OE zj7 zb7 zj2 zb2
 by_cases h0 : 0 ≤ a0
 ·rw [agW (by omega : a0 ≥ 0)]
  simp only [agY]
  by_cases h5 : a0 ≤ 5
  ·rw [agW h5]
   obtain ⟨n, rfl⟩ := ahS h0
   have hn : n ≤ 5 := by omega
   have hs := bd hn
   have hpos := ahJ (2 ^ n)
   simp only [agY]
   rw [ab rfl]
   have e : isT (n : Int) a1 = (decide (0 ≤ a1) && decide (a1 < ((2 ^ 2 ^ n : Nat) : Int))) := by
    simp only [isT, ahb, agW (by omega : 0 ≤ (n : Int)), agW (by omega : (n : Int) ≤ 5), ag8]
    push_cast
    rfl
   rw [e]
   by_cases h1 : 0 ≤ a1
   ·obtain ⟨w, rfl⟩ := ahS h1
    rw [agW (by omega : (w : Int) ≥ 0), aM n (by omega)]
    simp only [agY, ag8]
    rw [ab (agW (ahi _)), Gf w (2 ^ n) (by omega)]
    congr 1
    have : w / 2 ^ 2 ^ n = 0 ↔ w < 2 ^ 2 ^ n := by
     rw [Nat.div_eq_zero_iff]
     omega
    by_cases hw : w < 2 ^ 2 ^ n
    ·rw [this.2 hw, agW (by omega)]; rfl
    ·rw [ag1 (by omega)]
     have : ¬ w / 2 ^ 2 ^ n = 0 := fun h => hw (this.1 h)
     simp only [beq_eq_false_iff_ne, ne_eq]
     omega
   ·rw [ag1 (by omega : ¬ a1 ≥ 0)]; rfl
  ·rw [ag1 h5]
   simp [isT, h5]
 ·rw [ag1 (by omega : ¬ a0 ≥ 0)]
  simp [isT, h0]
end Go.Proofs.YtmhlcbibbhelkaaGreatDoor
namespace Go.Proofs.YtmhlcbibbhelkaaGreatDoor
open Go.Rv
set_option linter.unusedVariables false
variable {β : Type}
theorem br (g : Nat → Bool) : ∀ (n x : Nat), (aQ g n).testBit x = (decide (x < n) && g x)
 | 0, x => by simp [aQ]
 | n + 1, x => by
  unfold aQ
  rw [aii, br g n x]
  by_cases hx : x = n
  ·subst hx
   cases hg : g x <;> simp [Nat.testBit_two_pow_self]
  ·have h1 : (if g n then 2 ^ n else 0 : Nat).testBit x = false := by
    split
    ·exact Nat.testBit_two_pow_of_ne (Ne.symm hx)
    ·exact ahP _
   rw [h1, aiy]
   congr 1
   exact decide_eq_decide.2 (by omega)

theorem rq (g h : Nat → Bool) (n : Nat) : aQ g n = aQ h n ↔ ∀ x, x < n → g x = h x := by
 refine ⟨fun e x hx => ?_, fun e => us e⟩
 have := congrArg (fun t => t.testBit x) e
 simpa [br, hx] using this

theorem Io (w n : Nat) (h : w < 2 ^ n) : aQ w.testBit n = w := by
 apply ahx
 intro x
 rw [br]
 by_cases hx : x < n
 ·simp [hx]
 ·have : w.testBit x = false := aiT (ag9 h (ag6 (by decide) (by omega)))
  simp [hx, this]

def ins (x i b : Nat) : Nat := (x / 2 ^ i) * 2 ^ (i + 1) ||| b * 2 ^ i ||| (x &&& (2 ^ i - 1))
def del (x i : Nat) : Nat := (x / 2 ^ (i + 1)) * 2 ^ i ||| (x &&& (2 ^ i - 1))
theorem QD : ∀ n, n ≤ 5 → ∀ i, i < n → ∀ x, x < 2 ^ n → del x i < 2 ^ (n - 1) ∧ ins (del x i) i (x / 2 ^ i % 2) = x ∧ ∀ b, b < 2 → ys x i b = ins (del x i) i b := by decide +kernel
theorem QP : ∀ n, n ≤ 5 → ∀ i, i < n → ∀ x, x < 2 ^ (n - 1) → ins x i 0 < 2 ^ n ∧ ins x i 1 < 2 ^ n := by decide +kernel
theorem VM : ∀ n, n ≤ 5 → ∀ i, i < n → ∀ x, x < 2 ^ (n - 1) → ys (ins x i 0) i 0 = ins x i 0 ∧ ys (ins x i 0) i 1 = ins x i 1 ∧ ys (ins x i 1) i 0 = ins x i 0 ∧ ys (ins x i 1) i 1 = ins x i 1 := by decide +kernel
theorem yy (n : Nat) (hn : n ≤ 5) (i : Nat) (hi : i < n) (x : Nat) (hx : x < 2 ^ (n - 1)) (b : Nat) (hb : b < 2) : ins x i b < 2 ^ n ∧ ∀ c, c < 2 → ys (ins x i c) i b = ins x i b := by
  obtain ⟨h1, h2⟩ := QP n hn i hi x hx
  obtain ⟨h3, h4, h5, h6⟩ := VM n hn i hi x hx
  have hb' : b = 0 ∨ b = 1 := by omega
  rcases hb' with rfl | rfl
  · exact ⟨h1, fun c hc => by have hc' : c = 0 ∨ c = 1 := by omega
                              rcases hc' with rfl | rfl <;> assumption⟩
  · exact ⟨h2, fun c hc => by have hc' : c = 0 ∨ c = 1 := by omega
                              rcases hc' with rfl | rfl <;> assumption⟩

def dep (w n i : Nat) : Bool := aQ (fun x => w.testBit (ins x i 0)) (2 ^ (n - 1)) != aQ (fun x => w.testBit (ins x i 1)) (2 ^ (n - 1))

theorem D7 (w n i b : Nat) (hn : n ≤ 5) (hi : i < n) (hb : b < 2) (hw : w < 2 ^ 2 ^ n) : (aQ (fun x => w.testBit (ys x i b)) (2 ^ n) == w) = !dep w n i := by
 have key : aQ (fun x => w.testBit (ys x i b)) (2 ^ n) = w ↔ aQ (fun x => w.testBit (ins x i 0)) (2 ^ (n - 1)) = aQ (fun x => w.testBit (ins x i 1)) (2 ^ (n - 1)) := by
  conv => lhs; rhs; rw [← Io w (2 ^ n) hw]
  rw [rq, rq]
  constructor
  ·intro h x hx
   obtain ⟨a1, a2⟩ := yy n hn i hi x hx 0 (by omega)
   obtain ⟨b1, b2⟩ := yy n hn i hi x hx 1 (by omega)
   have e0 := h _ a1
   have e1 := h _ b1
   have c0 := (yy n hn i hi x hx b hb).2 0 (by omega)
   have c1 := (yy n hn i hi x hx b hb).2 1 (by omega)
   rw [c0] at e0
   rw [c1] at e1
   rw [← e0, ← e1]
  ·intro h x hx
   obtain ⟨h1, h2, h3⟩ := QD n hn i hi x hx
   have e := h _ h1
   rw [h3 b hb]
   conv => rhs; rw [← h2]
   have hc : x / 2 ^ i % 2 = 0 ∨ x / 2 ^ i % 2 = 1 := by omega
   have hb' : b = 0 ∨ b = 1 := by omega
   rcases hc with hc | hc <;> rcases hb' with rfl | rfl <;> rw [hc] <;> simp only [e]
 unfold dep
 by_cases h : aQ (fun x => w.testBit (ys x i b)) (2 ^ n) = w
 ·rw [beq_iff_eq.2 h]
  simp [key.1 h]
 ·rw [beq_eq_false_iff_ne.2 h]
  rw [bne_iff_ne.2 fun e => h (key.2 e)]
  rfl

def vars (w n m : Nat) : List Int := ((List.range m).filter fun i => dep w n i).map Int.ofNat
end Go.Proofs.YtmhlcbibbhelkaaGreatDoor
namespace Go.Proofs.YtmhlcbibbhelkaaGreatDoor
open Go.Rv
set_option linter.unusedVariables false
variable {β : Type}
theorem acD (w n i b : Nat) (hn : n ≤ 5) (hi : i < n) (hb : b < 2) (hw : w < 2 ^ 2 ^ n) : (((w ^^^ aQ (fun x => w.testBit (ys x i b)) (2 ^ n) : Nat) : Int) != 0) = dep w n i := by
 have h := D7 w n i b hn hi hb hw
 cases hd : dep w n i with
 | true =>
  rw [hd] at h
  have h1 : ¬ aQ (fun x => w.testBit (ys x i b)) (2 ^ n) = w := by simpa using h
  rw [bne_iff_ne]
  intro e
  have : w ^^^ aQ (fun x => w.testBit (ys x i b)) (2 ^ n) = 0 := by exact_mod_cast e
  refine h1 (ahx fun j => ?_)
  have := congrArg (fun t => t.testBit j) this
  simp only [aiM, ahP] at this
  revert this
  cases w.testBit j <;> cases (aQ (fun x => w.testBit (ys x i b)) (2 ^ n)).testBit j <;> simp
 | false =>
  rw [hd] at h
  have h1 : aQ (fun x => w.testBit (ys x i b)) (2 ^ n) = w := by simpa using h
  rw [h1, Nat.xor_self]
  rfl
end Go.Proofs.YtmhlcbibbhelkaaGreatDoor
namespace Go.Proofs.YtmhlcbibbhelkaaGreatDoor
open Go.Rv
set_option linter.unusedVariables false
variable {β : Type}
end Go.Proofs.YtmhlcbibbhelkaaGreatDoor
namespace Go.Proofs.YtmhlcbibbhelkaaGreatDoor
open Go.Rv
set_option linter.unusedVariables false
variable {β : Type}
def ab6 (w n x i b : Nat) : Bool := (w ^^^ aQ (fun x => w.testBit (ys x i b)) (2 ^ n)).testBit x
def S1 (c : Bool) (l : List Int) (v : Int) : List Int := if c then l ++ [v] else l
def adN (w n x : Nat) : Nat → List Int
 | 0 => []
 | i + 1 => S1 (ab6 w n x i 1) (S1 (ab6 w n x i 0) (adN w n x i) ((2 * i : Nat) : Int)) ((2 * i + 1 : Nat) : Int)
end Go.Proofs.YtmhlcbibbhelkaaGreatDoor
namespace Go.Proofs.YtmhlcbibbhelkaaGreatDoor
open Go.Rv
set_option linter.unusedVariables false
variable {β : Type}
theorem aX (N : Nat) (a b c : Int) (k : Bool → Option β) : bK N a b c k = k (decide (b ≤ a) && decide (a ≤ c)) := by
 unfold bK Sf
 by_cases h : b ≤ a
 ·rw [agW (by omega : a ≥ b)]; rfl
 ·rw [ag1 (by omega : ¬ a ≥ b)]; rfl
theorem Cw {n w : Nat} (hn : n ≤ 5) (hw : w < 2 ^ 2 ^ n) : w < 4294967296 := ag9 hw (ag6 (by decide) (bd hn) : 2 ^ 2 ^ n ≤ 2 ^ 32)

def eJ (s : Nat) (l : List Int) : Nat := l.foldl (fun s x => s ||| 2 ^ x.toNat) s

end Go.Proofs.YtmhlcbibbhelkaaGreatDoor
namespace Go.Proofs.YtmhlcbibbhelkaaGreatDoor
open Go.Rv
set_option linter.unusedVariables false
variable {β : Type}
def pc : Nat → Nat → Nat
 | 0, _ => 0
 | f + 1, w => w % 2 + pc f (w / 2)
def g7 (w : Nat) : Nat := pc 32 w
def q1 (c : Nat) : Nat := (c / 2 &&& 85) + (c &&& 85)
def q2 (c : Nat) : Nat := (c / 4 &&& 51) + (c &&& 51)
def q3 (c : Nat) : Nat := (c / 16 + c) &&& 15
def g1 (a : Int) : Int := R6 (bits .and .u64 (cX .u64 a 1) 6148914691236517205 + bits .and .u64 a 6148914691236517205)
def g2 (a : Int) : Int := R6 (bits .and .u64 (cX .u64 a 2) 3689348814741910323 + bits .and .u64 a 3689348814741910323)
def g3 (a : Int) : Int := bits .and .u64 (R6 (cX .u64 a 4 + a)) 1085102592571150095
def g4 (a : Int) : Int := R6 (a + cX .u64 a 8)
end Go.Proofs.YtmhlcbibbhelkaaGreatDoor
namespace Go.Proofs.YtmhlcbibbhelkaaGreatDoor
open Go.Rv
set_option linter.unusedVariables false
variable {β : Type}
def cnt (g : Nat → Bool) : Nat → Nat
 | 0 => 0
 | m + 1 => cnt g m + (if g m then 1 else 0)
theorem KI (g : Nat → Bool) : ∀ m, cnt g m ≤ m
 | 0 => ag7 _
 | m + 1 => by have := KI g m; simp only [cnt]; split <;> omega
def adf (w i x : Nat) : Bool := w.testBit x != w.testBit (x ^^^ 2 ^ i)
end Go.Proofs.YtmhlcbibbhelkaaGreatDoor
namespace Go.Proofs.YtmhlcbibbhelkaaGreatDoor
open Go.Rv
set_option linter.unusedVariables false
set_option maxRecDepth 100000
variable {β : Type}
def adS (w : Nat) (l : List Int) : Nat := l.foldl (fun w x => w ^^^ 2 ^ x.toNat) w
end Go.Proofs.YtmhlcbibbhelkaaGreatDoor
namespace Go.Proofs.YtmhlcbibbhelkaaGreatDoor
open Go.Rv
set_option linter.unusedVariables false
variable {β : Type}
theorem cr (N n : Nat) (hn : n ≤ 5) (k : Int → Option β) : ik N (n : Int) k = k ((2 ^ 2 ^ n - 1 : Nat) : Int) := by
 have hs := bd hn
 have hp : 2 ^ 2 ^ n < 9223372036854775808 := qH (by omega)
 have h1 := ahJ (2 ^ n)
 unfold ik Oy
 rw [Ga n hn, aM (2 ^ n) (by omega), agW (by omega : (0 : Int) ≤ (n : Int)), agW (ahi (2 ^ n)), ab rfl, ab rfl, bp (by omega) (by omega)]
 congr 1
 omega

def dU (a0 a1 m : Int) : Bool := isT a0 a1 && decide (a0 ≤ m)
theorem rG (N : Nat) (a0 a1 m : Int) (h1 : a1 < 9223372036854775808) (k : Bool → Option β) : gj N a0 a1 m k = k (dU a0 a1 m) := by
 unfold gj CH dU
 rw [bZ N a0 a1 h1]
 cases isT a0 a1 <;> rfl
end Go.Proofs.YtmhlcbibbhelkaaGreatDoor
namespace Go.Proofs.YtmhlcbibbhelkaaGreatDoor
open Go.Rv
set_option linter.unusedVariables false
variable {β : Type}
end Go.Proofs.YtmhlcbibbhelkaaGreatDoor
namespace Go.Proofs.YtmhlcbibbhelkaaGreatDoor
open Go.Rv
variable {β : Type}
def B (l : List UInt8) : ByteArray := ⟨l.toArray⟩
theorem mz (s : ByteArray) : B s.data.toList = s := by cases s; simp [B]
theorem aE (l : List UInt8) : (B l).size = l.length := by simp [B, ByteArray.size]
theorem SE {a b : ByteArray} (h : a.data.toList = b.data.toList) : a = b := by rw [← mz a, ← mz b, h]
theorem aG (l : List UInt8) : (B l).toList = l := Go.ByteArray.toList_mk l
theorem JB (l : List UInt8) : (B l).data.toList = l := by simp [B]
theorem cK (l m : List UInt8) : B l ++ B m = B (l ++ m) := by
 apply SE
 rw [ByteArray.toList_data_append]
 simp [B]
theorem JA (l : List UInt8) (a b : Nat) : (B l).extract a b = B ((l.take b).drop a) := by
 apply SE
 rw [ByteArray.data_extract]
 simp [B, ajq, List.extract_eq_take_drop]
theorem d7 : ByteArray.empty = B [] := rfl
theorem aal (n : Int) : aq (([] : List Int) ++ [n]) = B [UInt8.ofNat n.toNat] := by
 simp [aq, B]
theorem cg (l : List Int) : aq l = B (l.map fun n => UInt8.ofNat n.toNat) := by simp [aq, B]
theorem Jz (l : List UInt8) (i : Nat) (h : i < l.length) : bt (B l) (i : Int) = (l[i].toNat : Int) := by
 simp [bt, B, List.getD, ajC h]
theorem SD (c : UInt8) (r : List UInt8) : bt (B (c :: r)) 0 = (c.toNat : Int) := by simp [bt, B]
theorem JC (c : UInt8) (r : List UInt8) : (B (c :: r)).extract (Int.toNat 1) (B (c :: r)).size = B r := by
 rw [JA, aE]
 simp
theorem Hd (c : UInt8) : c.toNat < 256 := c.toNat_lt
end Go.Proofs.YtmhlcbibbhelkaaGreatDoor
namespace Go.Proofs.YtmhlcbibbhelkaaGreatDoor
open Go.Rv
variable {β : Type}
def lf (n : Nat) : Bool := (decide (97 ≤ n) && decide (n < 102)) || (n == 48 || n == 49)
def bn (n : Nat) : Bool := n == 38 || (n == 124 || n == 94)
def pt : Nat → List UInt8 → Option (Tr × List UInt8)
 | 0, _ => none
 | _ + 1, [] => none
 | F + 1, c :: r =>
  cond (lf c.toNat) (some (.node c.toNat 0 .nil .nil, r))
   (cond (c.toNat == 33) (match pt F r with
    | some (T, r1) => some (.node 33 0 T .nil, r1)
    | none => none)
    (cond (bn c.toNat) (match pt F r with
     | some (A, r1) => match pt F r1 with
      | some (C, r2) => some (.node c.toNat 0 A C, r2)
      | none => none
     | none => none) none))
def tx : Tr → List UInt8
 | .nil => []
 | .node a _ l r => UInt8.ofNat a.toNat :: (tx l ++ tx r)
def wf : Tr → Prop
 | .nil => False
 | .node a b l r => b = 0 ∧ ∃ n : Nat, a = n ∧ n < 256 ∧ ((lf n = true ∧ l = .nil ∧ r = .nil) ∨ (n = 33 ∧ wf l ∧ r = .nil) ∨ (bn n = true ∧ wf l ∧ wf r))

theorem jR : ∀ (F : Nat) (l : List UInt8) (T : Tr) (r : List UInt8), pt F l = some (T, r) → wf T ∧ l = tx T ++ r := by
 intro F
 induction F with
 | zero => intro l T r h; cases h
 | succ F ih =>
  intro l T r h
  cases l with
  | nil => cases h
  | cons c l =>
   simp only [pt] at h
   cases h1 : lf c.toNat with
   | true =>
    rw [h1, agY] at h
    cases h
    exact ⟨⟨rfl, c.toNat, rfl, Hd c, .inl ⟨h1, rfl, rfl⟩⟩, by simp [tx]⟩
   | false =>
    rw [h1, agX] at h
    cases h2 : c.toNat == 33 with
    | true =>
     rw [h2, agY] at h
     have h2 := eq_of_beq h2
     cases h3 : pt F l with
     | none => rw [h3] at h; cases h
     | some p =>
      obtain ⟨U, r1⟩ := p
      rw [h3] at h
      cases h
      obtain ⟨k1, k2⟩ := ih _ _ _ h3
      refine ⟨⟨rfl, 33, rfl, by decide, .inr (.inl ⟨rfl, k1, rfl⟩)⟩, ?_⟩
      have : c = 33 := by rw [← ajb (x := c), h2]; rfl
      subst this
      simp only [tx, ahg, ah3]
      rw [← k2]
      rfl
    | false =>
     rw [h2, agX] at h
     cases h3 : bn c.toNat with
     | false => rw [h3] at h; cases h
     | true =>
      rw [h3, agY] at h
      cases h4 : pt F l with
      | none => rw [h4] at h; cases h
      | some p =>
       obtain ⟨U, r1⟩ := p
       rw [h4] at h
       simp only at h
       cases h5 : pt F r1 with
       | none => rw [h5] at h; cases h
       | some q =>
        obtain ⟨V, r2⟩ := q
        rw [h5] at h
        cases h
        obtain ⟨k1, k2⟩ := ih _ _ _ h4
        obtain ⟨k3, k4⟩ := ih _ _ _ h5
        refine ⟨⟨rfl, c.toNat, rfl, Hd c, .inr (.inr ⟨h3, k1, k3⟩)⟩, ?_⟩
        simp only [tx, ahb, ajb, ah3, ahs]
        rw [← k4, ← k2]

theorem rg : ∀ (T : Tr) (F : Nat) (r : List UInt8), wf T → (tx T).length ≤ F → pt F (tx T ++ r) = some (T, r) := by
 intro T
 induction T with
 | nil => intro F r h; exact h.elim
 | node a b l r ihl ihr =>
  intro F q h hF
  obtain ⟨rfl, n, rfl, hn, h⟩ := h
  have e : (UInt8.ofNat ((n : Int).toNat)).toNat = n := by simp; omega
  cases F with
  | zero => simp [tx] at hF
  | succ F =>
   simp only [tx, ah3, ahs, ag3, ag4] at hF ⊢
   simp only [pt, e]
   rcases h with ⟨h1, rfl, rfl⟩ | ⟨rfl, h1, rfl⟩ | ⟨h1, h2, h3⟩
   ·rw [h1]; simp [tx]
   ·rw [show lf 33 = false from rfl, show ((33 : Nat) == 33) = true from rfl]
    simp only [agY, agX, tx, ahG]
    rw [ihl F q h1 (by simpa [tx] using hF)]
    rfl
   ·have e1 : lf n = false := by
     simp only [bn, ahH, beq_iff_eq] at h1
     rcases h1 with rfl | rfl | rfl <;> rfl
    have e2 : (n == 33) = false := by
     simp only [bn, ahH, beq_iff_eq] at h1
     rcases h1 with rfl | rfl | rfl <;> rfl
    rw [e1, e2, h1]
    simp only [agY, agX]
    rw [ihl F _ h2 (by omega)]
    simp only
    rw [ihr F _ h3 (by omega)]

theorem Ob {T : Tr} (h : wf T) : 0 < (tx T).length := by
 cases T with
 | nil => exact h.elim
 | node a b l r => simp [tx]

theorem iY (N n : Nat) (k : Bool → Option β) : eE N (n : Int) k = k (decide (97 ≤ n) && decide (n < 102)) := by
 simp only [eE, GD]
 by_cases h1 : 97 ≤ n
 ·rw [agW (show (n : Int) ≥ 97 by omega), agW h1]
  simp only [agY, ag8]
  congr 1
  by_cases h2 : n < 102
  ·rw [agW h2, agW (by omega)]
  ·rw [ag1 h2, ag1 (by omega)]
 ·rw [ag1 (show ¬ (n : Int) ≥ 97 by omega), ag1 h1]
  rfl

theorem cJ (n m : Nat) : ((n : Int) == (m : Int)) = (n == m) := by
 by_cases h : n = m
 ·subst h; simp
 ·rw [beq_eq_false_iff_ne.2 h, beq_eq_false_iff_ne.2 (by omega)]

theorem BO (N : Nat) : ∀ (F : Nat) (l : List UInt8), l.length < F → ∀ k : Tr → ByteArray → Option β,
  jr N F (B l) k = match pt F l with | some (T, r) => k T (B r) | none => k .nil (B []) := by
 intro F
 induction F with
 | zero => intro l h; omega
 | succ F ih =>
  intro l hF k
  cases l with
  | nil =>
   simp only [jr, Py, GO, aG, d7, pt]
   rfl
  | cons c r =>
   simp only [ag3] at hF
   simp only [jr, Py, GO, aG, d7, SD, JC]
   simp only [aE]
   rw [show ((c :: r == []) : Bool) = false from rfl]
   simp only [agX]
   rw [ab (agW (by simp only [ag3]; omega)), ab (agW (by simp only [ag3]; omega)), iY]
   have hn := Hd c
   simp only [pt]
   generalize c.toNat = n at hn ⊢
   have e48 : ((n : Int) == 48) = (n == 48) := cJ n 48
   have e49 : ((n : Int) == 49) = (n == 49) := cJ n 49
   have e33 : ((n : Int) == 33) = (n == 33) := cJ n 33
   have e38 : ((n : Int) == 38) = (n == 38) := cJ n 38
   have e124 : ((n : Int) == 124) = (n == 124) := cJ n 124
   have e94 : ((n : Int) == 94) = (n == 94) := cJ n 94
   rw [e48, e49, e33, e38, e124, e94]
   simp only [lf, bn]
   have bin : ∀ k' : Tr → Tr → List UInt8 → Option β, (jr N F (B r) fun r6 r7 => cond (Tr.isNil r6) (k .nil (B [])) (jr N F r7 fun r8 r9 => cond (Tr.isNil r8) (k .nil (B [])) (k (.node n 0 r6 r8) r9))) =
     match (match pt F r with
     | some (A, r1) => (match pt F r1 with
      | some (C, r2) => some (Tr.node n 0 A C, r2)
      | none => none)
     | none => none) with | some (T, r) => k T (B r) | none => k .nil (B []) := by
    intro _
    rw [ih r (by omega)]
    cases h1 : pt F r with
    | none => rfl
    | some p =>
     obtain ⟨A, r1⟩ := p
     obtain ⟨w1, w2⟩ := jR _ _ _ _ h1
     have hl : r1.length < F := by rw [w2] at hF; simp at hF; omega
     simp only
     have hA : Tr.isNil A = false := by cases A with | nil => exact w1.elim | node => rfl
     rw [hA, agX, ih r1 hl]
     cases h2 : pt F r1 with
     | none => rfl
     | some q =>
      obtain ⟨C, r2⟩ := q
      obtain ⟨w3, w4⟩ := jR _ _ _ _ h2
      have hC : Tr.isNil C = false := by cases C with | nil => exact w3.elim | node => rfl
      simp only
      rw [hC, agX]
   by_cases h1 : n = 33
   ·subst h1
    simp
    rw [ih r (by omega)]
    cases h1 : pt F r with
    | none => rfl
    | some p =>
     obtain ⟨A, r1⟩ := p
     obtain ⟨w1, w2⟩ := jR _ _ _ _ h1
     have hA : Tr.isNil A = false := by cases A with | nil => exact w1.elim | node => rfl
     simp only
     rw [hA, agX]
   ·have f1 := beq_eq_false_iff_ne.2 h1
    by_cases h2 : n = 38
    ·subst h2; simpa using bin fun _ _ _ => none
    ·have f2 := beq_eq_false_iff_ne.2 h2
     by_cases h3 : n = 124
     ·subst h3; simpa using bin fun _ _ _ => none
     ·have f3 := beq_eq_false_iff_ne.2 h3
      by_cases h4 : n = 94
      ·subst h4; simpa using bin fun _ _ _ => none
      ·have f4 := beq_eq_false_iff_ne.2 h4
       rw [f1, f2, f3, f4]
       cases (decide (97 ≤ n) && decide (n < 102)) <;> cases h5 : n == 48 <;> cases h6 : n == 49 <;> simp
end Go.Proofs.YtmhlcbibbhelkaaGreatDoor
namespace Go.Proofs.YtmhlcbibbhelkaaGreatDoor
open Go.Rv
variable {β : Type}
theorem yl {α : Type} (l : List α) (i : Nat) (h : i < l.length) : l.drop i = l[i] :: l.drop (i + 1) := aiG h
theorem qS {α : Type} {l m r : List α} {i : Nat} (h : l.drop i = m ++ r) (hi : i ≤ l.length) : l.drop (l.length - r.length) = r ∧ l.length - r.length ≤ l.length ∧ i + m.length = l.length - r.length ∧ r.length ≤ l.length := by
 have e : l.length - i = m.length + r.length := by rw [← aiE, h, ag4]
 have e2 : l.length - r.length = i + m.length := by omega
 refine ⟨?_, by omega, by omega, by omega⟩
 rw [e2, ← ajp, h]
 simp

theorem Bt (N : Nat) (l : List UInt8) (hl : l.length ≤ 1048576) : ∀ (F i : Nat), l.length - i < F → i ≤ l.length → ∀ k : Int → Option β,
  oO N F (B l) (i : Int) k = match pt F (l.drop i) with | some (_, r) => k ((l.length - r.length : Nat) : Int) | none => k (-1) := by
 intro F
 induction F with
 | zero => intro i h; omega
 | succ F ih =>
  intro i hF hi k
  simp only [oO, acA, Z5, aE]
  rcases ahf i l.length with hlt | hge
  ·rw [ag1 (show ¬ (i : Int) ≥ (l.length : Int) by omega), Jz l i hlt]
   simp only [agX]
   rw [ab (agW (by omega)), ab (agW (by omega))]
   rw [show w64 ((i : Int) + 1) = ((i + 1 : Nat) : Int) by rw [bp] <;> omega]
   rw [yl l i hlt]
   have hlen : (l.drop (i + 1)).length = l.length - (i + 1) := aiE
   simp only [pt]
   have hn := Hd l[i]
   generalize l[i].toNat = n at hn ⊢
   have bin : ∀ d : Int, (oO N F (B l) ((i + 1 : Nat) : Int) fun r4 => cond (decide (r4 < 0)) (k (-1)) (oO N F (B l) r4 fun r5 => k r5)) =
     match (match pt F (l.drop (i + 1)) with
     | some (A, r1) => (match pt F r1 with
      | some (C, r2) => some (Tr.node d 0 A C, r2)
      | none => none)
     | none => none) with | some (_, r) => k ((l.length - r.length : Nat) : Int) | none => k (-1) := by
    intro d
    rw [ih (i + 1) (by omega) (by omega)]
    cases h1 : pt F (l.drop (i + 1)) with
    | none => rfl
    | some p =>
     obtain ⟨A, r1⟩ := p
     obtain ⟨w1, w2⟩ := jR _ _ _ _ h1
     obtain ⟨s1, s2, s3, s4⟩ := qS w2 (by omega)
     simp only
     rw [ag1 (by omega), agX, ih _ (by omega) s2, s1]
     cases h2 : pt F r1 <;> rfl
   have g : ∀ m : Nat, ((n : Int) == (m : Int)) = (n == m) := cJ n
   have g97 := g 97; have g98 := g 98; have g99 := g 99; have g100 := g 100; have g101 := g 101; have g48 := g 48
   have g49 := g 49; have g33 := g 33; have g38 := g 38; have g124 := g 124; have g94 := g 94
   simp only [aiN] at g97 g98 g99 g100 g101 g48 g49 g33 g38 g124 g94
   simp only [g97, g98, g99, g100, g101, g48, g49, g33, g38, g124, g94]
   have leaf : (i + 1 : Nat) = l.length - (l.drop (i + 1)).length := by omega
   by_cases hlf : lf n = true
   ·rw [hlf]
    simp only [agY]
    rw [← leaf]
    simp only [lf, ahH, agZ, decide_eq_true_eq, beq_iff_eq] at hlf
    have : n = 97 ∨ n = 98 ∨ n = 99 ∨ n = 100 ∨ n = 101 ∨ n = 48 ∨ n = 49 := by omega
    rcases this with rfl | rfl | rfl | rfl | rfl | rfl | rfl <;> rfl
   ·have hlf := eq_false_of_ne_true hlf
    rw [hlf]
    simp only [lf, ah2, Bool.and_eq_false_iff, decide_eq_false_iff_not, beq_eq_false_iff_ne] at hlf
    rw [beq_eq_false_iff_ne.2 (show n ≠ 97 by omega), beq_eq_false_iff_ne.2 (show n ≠ 98 by omega), beq_eq_false_iff_ne.2 (show n ≠ 99 by omega), beq_eq_false_iff_ne.2 (show n ≠ 100 by omega), beq_eq_false_iff_ne.2 (show n ≠ 101 by omega), beq_eq_false_iff_ne.2 hlf.2.1, beq_eq_false_iff_ne.2 hlf.2.2]
    simp only [agX]
    by_cases e8 : n = 33
    ·rw [e8, show ((33 : Nat) == 33) = true from rfl]
     simp only [agY]
     rw [ih (i + 1) (by omega) (by omega)]
     cases pt F (l.drop (i + 1)) <;> rfl
    rw [beq_eq_false_iff_ne.2 e8]
    simp only [agX, bn]
    by_cases e9 : n = 38
    ·rw [e9, show ((38 : Nat) == 38) = true from rfl]; exact bin 38
    rw [beq_eq_false_iff_ne.2 e9]
    by_cases e10 : n = 124
    ·rw [e10, show ((124 : Nat) == 124) = true from rfl]; exact bin 124
    rw [beq_eq_false_iff_ne.2 e10]
    by_cases e11 : n = 94
    ·rw [e11, show ((94 : Nat) == 94) = true from rfl]; exact bin 94
    rw [beq_eq_false_iff_ne.2 e11]
    rfl
  ·rw [agW (show (i : Int) ≥ (l.length : Int) by omega), agY, aiP hge]
   rfl

theorem pM (N : Nat) (hN : 1048576 < N) (l : List UInt8) (k : Bool → Option β) : vD N (B l) k = k (decide (l.length ≤ 60) && (match pt 1048577 l with | some (_, []) => true | _ => false)) := by
 simp only [vD, Z6, aE]
 by_cases h : l.length ≤ 60
 ·rw [agW (show (l.length : Int) ≤ 60 by omega), agW h]
  simp only [agY, ag8]
  by_cases h0 : l.length = 0
  ·have : l = [] := ahv h0
   subst this
   rfl
  ·rw [agW (show (l.length : Int) > 0 by omega), agY]
   show oO N N (B l) ((0 : Nat) : Int) _ = _
   rw [Bt N l (by omega) N 0 (by omega) (by omega), aih]
   have hfu : pt N l = pt 1048577 l := by
    cases h1 : pt N l with
    | some p =>
     obtain ⟨T, r⟩ := p
     obtain ⟨w1, w2⟩ := jR _ _ _ _ h1
     rw [w2]
     rw [rg T _ r w1]
     rw [w2] at h; simp at h; omega
    | none =>
     cases h2 : pt 1048577 l with
     | none => rfl
     | some p =>
      obtain ⟨T, r⟩ := p
      obtain ⟨w1, w2⟩ := jR _ _ _ _ h2
      rw [w2, rg T _ r w1] at h1
      ·cases h1
      ·rw [w2] at h; simp at h; omega
   rw [hfu]
   cases h1 : pt 1048577 l with
   | none => simp; rfl
   | some p =>
    obtain ⟨T, r⟩ := p
    obtain ⟨w1, w2⟩ := jR _ _ _ _ h1
    cases r with
    | nil => simp
    | cons c r =>
     simp only [ag3]
     congr 1
     refine beq_eq_false_iff_ne.2 ?_
     have : (tx T ++ c :: r).length = l.length := by rw [← w2]
     simp at this
     omega
 ·rw [ag1 (show ¬ (l.length : Int) ≤ 60 by omega), ag1 h]
  rfl
end Go.Proofs.YtmhlcbibbhelkaaGreatDoor
namespace Go.Proofs.YtmhlcbibbhelkaaGreatDoor
open Go.Rv
variable {β : Type}
theorem a6 (g : Nat → Nat → Option β) (m : Nat) (r : Option β) (hs : ∀ F i, i < m → g (F + 1) i = g F (i + 1)) (he : ∀ F, g (F + 1) m = r) :
  ∀ (F i : Nat), i ≤ m → m - i < F → g F i = r := by
 intro F
 induction F with
 | zero => intro i _ h; omega
 | succ F ih =>
  intro i hi hF
  rcases ahf i m with h | h
  ·rw [hs F i h]; exact ih (i + 1) h (by omega)
  ·have : i = m := by omega
   subst this; exact he F

def sg (m : Nat) : Int := if m % 2 = 1 then -1 else 1
def bw (w x : Nat) : Nat := if w.testBit x then 1 else 0
theorem KE (w x : Nat) : bw w x ≤ 1 := by unfold bw; split <;> omega

def tm (w u x : Nat) : Int := sg (bw w x) * sg (g7 (u &&& x))
theorem Bq {n w : Nat} (hn : n ≤ 5) (hw : w < 2 ^ 2 ^ n) : isT (n : Int) (w : Int) = true := by
 have h4 : ((w : Nat) : Int) < 2 ^ 2 ^ n := by exact_mod_cast hw
 simp only [isT, agZ, decide_eq_true_eq, ahb]
 exact ⟨⟨⟨by omega, by omega⟩, by omega⟩, h4⟩
theorem fX {n w : Nat} (hn : n ≤ 5) (hw : w < 2 ^ 2 ^ n) : w < 4294967296 :=
 ag9 hw (ahy (ag6 (by decide) (bd hn)) (by decide))

theorem El {α : Type} (p : List α) (y z : α) (r : List α) : wr (p ++ y :: r) (p.length : Int) z = p ++ z :: r := by
 simp [wr]

theorem bV (N n : Nat) (w : Int) (hn : n ≤ 5) (k : Int → Option β) : zj2 N (n : Int) w k = k ((2 ^ n : Nat) : Int) := by
 unfold zj2 zb2
 rw [ab (agW (by omega)), aM n (by omega)]
theorem cl (N w x : Nat) (n : Int) (hw : w < 4294967296) (k : Int → Option β) : zj3 N n (w : Int) (x : Int) k = k (bw w x : Int) := by
 unfold zj3 zb3
 rw [ab (agW (by omega)), gv w x (by omega)]
 rfl

def en (l z : List Int) : Nat → List Int
 | 0 => z
 | i + 1 => wr (en l z i) (g7 i : Int) (w64 (rd 0 (en l z i) (g7 i : Int) + w64 (rd 0 l (i : Int) * rd 0 l (i : Int))))
theorem sh (n : Nat) : 0 < 2 ^ n := Nat.pow_pos (by decide)
end Go.Proofs.YtmhlcbibbhelkaaGreatDoor
namespace Go.Proofs.YtmhlcbibbhelkaaGreatDoor
open Go.Rv
variable {β : Type}
def L5 (n : Int) : Prop := -9223372036854775808 ≤ n ∧ n ≤ 9223372036854775807
theorem cT (n : Nat) (h : n < 256) : w8 (n : Int) = n := by
 have := IntKind.wrap_u8 (n : Int)
 show IntKind.wrap .u8 (n : Int) = n
 rw [this]
 omega

theorem dy (N : Nat) (n : Int) (h : L5 n) (k : ByteArray → Option β) : fI N n k = k (B (Lib.itoa n)) := by
 unfold fI OY strconv_Itoa
 rw [ab (agW h.1), ab (agW h.2)]
 rfl

end Go.Proofs.YtmhlcbibbhelkaaGreatDoor
namespace Go.Proofs.YtmhlcbibbhelkaaGreatDoor
open Go.Rv
variable {β : Type}
theorem CQ (n : Nat) : ∀ y ∈ List.replicate n (0 : Int), L5 y := by
 intro y hy
 have := (List.mem_replicate.1 hy).2
 subst this
 unfold L5; omega
end Go.Proofs.YtmhlcbibbhelkaaGreatDoor
namespace Go.Proofs.YtmhlcbibbhelkaaGreatDoor
open Go.Rv
variable {β : Type}
theorem KD (w x : Nat) : ((bw w x : Int) == 0) = !w.testBit x := by unfold bw; cases w.testBit x <;> rfl
theorem jA (w x : Nat) : ((bw w x : Int) == 1) = w.testBit x := by unfold bw; cases w.testBit x <;> rfl
theorem lY (w x : Nat) (hw : w < 9223372036854775808) : bits .and .i64 (cX .i64 (w : Int) (x : Int)) 1 = (bw w x : Int) := gv w x hw

def db (p : Nat → Bool) : Nat → Bool
 | 0 => true
 | m + 1 => db p m && p m
theorem iz {p : Nat → Bool} : ∀ {m : Nat}, db p m = true → ∀ i, i < m → p i = true
 | 0, _, i, h => by omega
 | m + 1, h, i, hi => by
  simp only [db, agZ] at h
  rcases ahf i m with h1 | h1
  ·exact iz h.1 i h1
  ·have : i = m := by omega
   subst this; exact h.2
theorem sr {p : Nat → Bool} : ∀ {m : Nat}, (∀ i, i < m → p i = true) → db p m = true
 | 0, _ => rfl
 | m + 1, h => by
  simp only [db, agZ]
  exact ⟨sr fun i hi => h i (by omega), h m (by omega)⟩
theorem tB (g : Nat → Nat → Option β) (p : Nat → Bool) (m : Nat) (r0 r1 : Option β) (hs : ∀ F i, i < m → g (F + 1) i = cond (p i) (g F (i + 1)) r0) (he : ∀ F, g (F + 1) m = r1) :
  ∀ F, m < F → g F 0 = cond (db p m) r1 r0 := by
 have key : ∀ (F i : Nat), i ≤ m → m - i < F → db p i = true → g F i = cond (db p m) r1 r0 := by
  intro F
  induction F with
  | zero => intro i _ h; omega
  | succ F ih =>
   intro i hi hF ha
   rcases ahf i m with h | h
   ·rw [hs F i h]
    cases hp : p i with
    | true => exact ih (i + 1) h (by omega) (by simp only [db, ha, hp, aim])
    | false =>
     have : db p m = false := by
      cases hm : db p m with
      | false => rfl
      | true => rw [iz hm i h] at hp; cases hp
     rw [this]; rfl
   ·have : i = m := by omega
    subst this
    rw [he, ha]; rfl
 intro F hF
 exact key F 0 (ahr _) (by omega) rfl

def R (w n i b : Nat) : Nat := aQ (fun x => w.testBit (ins x i b)) (2 ^ (n - 1))
def mono (w n i : Nat) : Bool := (R w n i 0 &&& R w n i 1) == R w n i 0
def adT (w n : Nat) : Bool := db (mono w n) n && (!w.testBit 0 && w.testBit (2 ^ n - 1))
end Go.Proofs.YtmhlcbibbhelkaaGreatDoor
namespace Go.Proofs.YtmhlcbibbhelkaaGreatDoor
open Go.Rv
variable {β : Type}
def turn (w i x : Nat) : Bool := !x.testBit i && adf w i x
theorem l5 (N n i : Nat) (hN : 64 < N) (hn : n ≤ 5) (k : Int → Option β) : Al N (n : Int) (i : Int) k = k (aQ (fun x => x.testBit i) (2 ^ n) : Int) := by
 have hs := bd hn
 have hz : (0 : Int) ≤ ((2 ^ n : Nat) : Int) := ahi _
 refine a6 (fun F x => vt N F (n : Int) (i : Int) (aQ (fun x => x.testBit i) x : Int) (x : Int) fun e => k e) (2 ^ n) _ (fun F x hx => ?_) (fun F => ?_) N 0 (by omega) (by omega)
 ·simp only [vt, Z9, Sd]
  have ht : aQ (fun x => x.testBit i) x < 2 ^ 63 := ag9 (bT _ x) (ag6 (by decide) (by omega))
  have hp : 2 ^ x < 2 ^ 63 := ahE (by decide) (by omega)
  rw [ab (agW (by omega)), aM n (by omega), agW (by omega), agY, ab (agW (by omega)), lY x i (by omega), jA, aw x (by omega)]
  cases hxb : x.testBit i with
  | true =>
   have e : aQ (fun x => x.testBit i) (x + 1) = aQ (fun x => x.testBit i) x ||| 2 ^ x := by simp [aQ, hxb]
   rw [agY, ab (agW (by omega)), aM x (by omega), bOr _ _ ht hp, e]
  | false =>
   have e : aQ (fun x => x.testBit i) (x + 1) = aQ (fun x => x.testBit i) x := by simp [aQ, hxb]
   rw [agX, e]
 ·simp only [vt, Z9, Sd]
  rw [ab (agW (by omega)), aM n (by omega), ag1 (by omega), agX]
def adU (w n i : Nat) : Bool := R w n i 0 == 0
end Go.Proofs.YtmhlcbibbhelkaaGreatDoor
namespace Go.Proofs.YtmhlcbibbhelkaaGreatDoor
open Go.Rv
set_option linter.unusedSimpArgs false
set_option linter.unusedSectionVars false
variable {β : Type}
def qu (n w : Nat) : Nat → Nat → Option (List UInt8)
 | 0, _ => none
 | d + 1, i => cond (w == vw n i) (some [UInt8.ofNat (97 + i)]) (cond (w == full n - vw n i) (some [33, UInt8.ofNat (97 + i)]) (qu n w d (i + 1)))
def dp (T : List Int) (o : Bool) (w a : Nat) : Nat → Nat → Option Nat
 | 0, _ => none
 | d + 1, b => cond (decide (1 ≤ gt T b) && decide (gt T a + gt T b = gt T w) && (cond o (a &&& b) (a ||| b) == w)) (some b) (dp T o w a d (b + 1))
def bH (T : List Int) (o : Bool) (w L : Nat) : Nat → Nat → Option (Nat × Nat)
 | 0, _ => none
 | d + 1, a => cond (decide (1 ≤ gt T a) && decide (gt T a < gt T w)) (match dp T o w a L 0 with | some b => some (a, b) | none => bH T o w L d (a + 1)) (bH T o w L d (a + 1))
def fmF (T : List Int) (n : Nat) : Nat → Nat → List UInt8
 | 0, _ => []
 | F + 1, w => cond (w == 0) [48] (cond (w == full n) [49] (match cond (decide (gt T w = 1)) (qu n w n 0) none with
  | some s => s
  | none => match bH T true w (2 ^ 2 ^ n) (2 ^ 2 ^ n) 0 with
   | some (a, b) => 38 :: fmF T n F a ++ fmF T n F b
   | none => match bH T false w (2 ^ 2 ^ n) (2 ^ 2 ^ n) 0 with
    | some (a, b) => 124 :: fmF T n F a ++ fmF T n F b
    | none => []))
theorem BH {T : List Int} {o : Bool} {w a b : Nat} : ∀ (d i : Nat), dp T o w a d i = some b → 1 ≤ gt T b ∧ gt T a + gt T b = gt T w ∧ cond o (a &&& b) (a ||| b) = w ∧ i ≤ b ∧ b < i + d
 | 0, _, h => by cases h
 | d + 1, i, h => by
  unfold dp at h
  cases hb : (decide (1 ≤ gt T i) && decide (gt T a + gt T i = gt T w) && (cond o (a &&& i) (a ||| i) == w)) with
  | true =>
   rw [hb, agY, ag0] at h
   subst h
   simp only [agZ, decide_eq_true_eq, beq_iff_eq] at hb
   exact ⟨hb.1.1, hb.1.2, hb.2, ag7 _, by omega⟩
  | false =>
   rw [hb, agX] at h
   obtain ⟨h1, h2, h3, h4, h5⟩ := BH d (i + 1) h
   exact ⟨h1, h2, h3, by omega, by omega⟩
theorem pA {T : List Int} {o : Bool} {w L a b : Nat} : ∀ (d i : Nat), bH T o w L d i = some (a, b) → 1 ≤ gt T a ∧ gt T a < gt T w ∧ a < i + d ∧ 1 ≤ gt T b ∧ gt T a + gt T b = gt T w ∧ b < L
 | 0, _, h => by cases h
 | d + 1, i, h => by
  unfold bH at h
  cases hb : (decide (1 ≤ gt T i) && decide (gt T i < gt T w)) with
  | true =>
   rw [hb, agY] at h
   cases hp : dp T o w i L 0 with
   | some b' =>
    rw [hp] at h
    simp only [ag0, aho] at h
    obtain ⟨rfl, rfl⟩ := h
    simp only [agZ, decide_eq_true_eq] at hb
    obtain ⟨h1, h2, _, _, h5⟩ := BH L 0 hp
    exact ⟨hb.1, hb.2, by omega, h1, h2, by omega⟩
   | none =>
    rw [hp] at h
    obtain ⟨h1, h2, h3, h4⟩ := pA d (i + 1) h
    exact ⟨h1, h2, by omega, h4⟩
  | false =>
   rw [hb, agX] at h
   obtain ⟨h1, h2, h3, h4⟩ := pA d (i + 1) h
   exact ⟨h1, h2, by omega, h4⟩
theorem jU (T : List Int) (i : Nat) : rd 0 T (i : Int) = gt T i := by unfold rd gt; rw [ahb]
theorem gs2 (s t : List UInt8) (h : s.length + t.length ≤ 1000000) (X : Option β) : gd (decide ((B s).size + (B t).size ≤ 9223372036854775807)) X = X := ab (agW (by rw [aE, aE]; omega))
theorem DO {T : List Int} {o : Bool} {w a d : Nat} (h : gt T 0 = 0) : dp T o w a (d + 1) 0 = dp T o w a d 1 := by
 show cond (decide (1 ≤ gt T 0) && _ && _) _ _ = _
 rw [h, show decide ((1 : Int) ≤ 0) = false from rfl, ahu, ahu, agX]
theorem DN {T : List Int} {o : Bool} {w a i : Nat} (h : gt T i = 0) : dp T o w a 1 i = none := by
 show cond (decide (1 ≤ gt T i) && _ && _) _ _ = _
 rw [h, show decide ((1 : Int) ≤ 0) = false from rfl, ahu, ahu, agX]
 rfl
section
variable (N : Nat) (hN : 1048576 < N) {n : Nat} (hn : n ≤ 3) {T : List Int} (hT : u6 n T) {w a : Nat} (hw : w < 2 ^ 2 ^ n) (ha : a < 2 ^ 2 ^ n) (g : Nat → List UInt8)
 (hg : ∀ x, (g x).length ≤ 1000) (ha1 : 1 ≤ gt T a) (ha2 : gt T a < gt T w)
include hN hn hT hw ha hg ha1 ha2
theorem rp (o : Bool) (self : List Int → Int → Int → (ByteArray → Option β) → Option β) (hs : ∀ x, x < 2 ^ 2 ^ n → 1 ≤ gt T x → gt T x < gt T w → ∀ K, self T (n : Int) (x : Int) K = K (B (g x))) (k0 : ByteArray → Option β) (k1 : List Int → Int → Int → Int → Int → Option β) :
  ∀ (d F i : Nat), i + d = 2 ^ 2 ^ n - 1 → d < F → kp N self F T (n : Int) (w : Int) (cond o 0 1) (a : Int) (i : Int) k0 k1 =
   match dp T o w a (d + 1) i with
   | some b => k0 (B (cond o 38 124 :: g a ++ g b))
   | none => k1 T (n : Int) (w : Int) (cond o 0 1) (a : Int)
 | d, 0, _, _, h => absurd h (ahV _)
 | 0, F + 1, i, hi, _ => by
  obtain rfl : i = 2 ^ 2 ^ n - 1 := by omega
  rw [DN hT.full]
  show CU N self T (n : Int) (w : Int) (cond o 0 1) (a : Int) _ _ k0 k1 = _
  unfold CU Gy
  rw [cr N n (by omega), ag1 (by omega)]
  rfl
 | d + 1, F + 1, i, hi, hF => by
  have hL := hT.len
  have ih := rp o self hs k0 k1 d F (i + 1) (by omega) (by omega)
  have hla := hT.le a
  have hlb := hT.le i
  have hlw := hT.le w
  have hL2 : 2 ^ 2 ^ n ≤ 256 := by
   obtain rfl | rfl | rfl | rfl : n = 0 ∨ n = 1 ∨ n = 2 ∨ n = 3 := by omega
   all_goals decide
  show CU N self T (n : Int) (w : Int) (cond o 0 1) (a : Int) (i : Int) _ k0 k1 = _
  unfold CU Gy
  rw [cr N n (by omega), agW (by omega : (i : Int) < ((2 ^ 2 ^ n - 1 : Nat) : Int)), agY, ab (agW (by omega)), ab (agW (by omega)), ab (agW (by omega)), ab (agW (by omega)), ab (agW (by omega)), ab (agW (by omega))]
  rw [jU, jU, jU, bp (by omega) (by omega), aw i (by omega), bAnd a i (by omega) (by omega), bOr a i (by omega) (by omega)]
  dsimp only
  have hp : dp T o w a (d + 1 + 1) i = cond (decide (1 ≤ gt T i) && decide (gt T a + gt T i = gt T w) && (cond o (a &&& i) (a ||| i) == w)) (some i) (dp T o w a (d + 1) (i + 1)) := rfl
  rw [hp]
  by_cases e1 : gt T a + gt T i = gt T w
  ·have hi1 : 1 ≤ gt T i := by omega
   have hilt : gt T i < gt T w := by omega
   have b1 : ((gt T a + gt T i) != gt T w) = false := by simp [e1]
   rw [b1, agX, agW hi1, agW e1, ag8, ag8]
   have ga := hg a
   have gi := hg i
   cases o with
   | true =>
    rw [agY, agY, agY, show ((0 : Int) == 0) = true from rfl, agY]
    by_cases e2 : a &&& i = w
    ·rw [show (((a &&& i : Nat) : Int) == (w : Int)) = true by simp [e2], show (a &&& i == w) = true by simp [e2], agY, agY, hs a ha ha1 ha2, show aq [38] = B [38] from rfl, gs2 _ _ (by simp only [ag3, ahh]; omega), hs i (by omega) hi1 hilt, cK, gs2 _ _ (by simp only [ag4, ag3, ahh]; omega), cK]
     rfl
    ·rw [show (((a &&& i : Nat) : Int) == (w : Int)) = false by rw [beq_eq_false_iff_ne]; omega, show (a &&& i == w) = false by simp [e2], agX, agX, show ((0 : Int) == 1) = false from rfl, agX]
     exact ih
   | false =>
    rw [agX, agX, agX, show ((1 : Int) == 0) = false from rfl, agX, show ((1 : Int) == 1) = true from rfl, agY]
    by_cases e2 : a ||| i = w
    ·rw [show (((a ||| i : Nat) : Int) == (w : Int)) = true by simp [e2], show (a ||| i == w) = true by simp [e2], agY, agY, hs a ha ha1 ha2, show aq [124] = B [124] from rfl, gs2 _ _ (by simp only [ag3, ahh]; omega), hs i (by omega) hi1 hilt, cK, gs2 _ _ (by simp only [ag4, ag3, ahh]; omega), cK]
     rfl
    ·rw [show (((a ||| i : Nat) : Int) == (w : Int)) = false by rw [beq_eq_false_iff_ne]; omega, show (a ||| i == w) = false by simp [e2], agX, agX]
     exact ih
  ·rw [show ((gt T a + gt T i) != gt T w) = true by simp [e1], agY, ag1 e1, aiB, ahu, agX]
   exact ih
end
theorem DL {T : List Int} {o : Bool} {w L i : Nat} (h : gt T i = 0) : bH T o w L 1 i = none := by
 show cond (decide (1 ≤ gt T i) && _) _ _ = _
 rw [h, show decide ((1 : Int) ≤ 0) = false from rfl, ahu, agX]
 rfl
theorem DM {T : List Int} {o : Bool} {w L d : Nat} (h : gt T 0 = 0) : bH T o w L (d + 1) 0 = bH T o w L d 1 := by
 show cond (decide (1 ≤ gt T 0) && _) _ _ = _
 rw [h, show decide ((1 : Int) ≤ 0) = false from rfl, ahu, agX]
section
variable (N : Nat) (hN : 1048576 < N) {n : Nat} (hn : n ≤ 3) {T : List Int} (hT : u6 n T) {w : Nat} (hw : w < 2 ^ 2 ^ n) (g : Nat → List UInt8) (hg : ∀ x, (g x).length ≤ 1000)
include hN hn hT hw hg
theorem ro (o : Bool) (self : List Int → Int → Int → (ByteArray → Option β) → Option β) (hs : ∀ x, x < 2 ^ 2 ^ n → 1 ≤ gt T x → gt T x < gt T w → ∀ K, self T (n : Int) (x : Int) K = K (B (g x))) (k0 : ByteArray → Option β) (k1 : List Int → Int → Int → Int → Option β) :
  ∀ (d F i : Nat), i + d = 2 ^ 2 ^ n - 1 → 1 ≤ i → d < F → il N self F T (n : Int) (w : Int) (cond o 0 1) (i : Int) k0 k1 =
   match bH T o w (2 ^ 2 ^ n) (d + 1) i with
   | some (a, b) => k0 (B (cond o 38 124 :: g a ++ g b))
   | none => k1 T (n : Int) (w : Int) (cond o 0 1)
 | d, 0, _, _, _, h => absurd h (ahV _)
 | 0, F + 1, i, hi, _, _ => by
  obtain rfl : i = 2 ^ 2 ^ n - 1 := by omega
  rw [DL hT.full]
  show CV N self T (n : Int) (w : Int) (cond o 0 1) _ _ k0 k1 = _
  unfold CV Gz
  rw [cr N n (by omega), ag1 (by omega)]
  rfl
 | d + 1, F + 1, i, hi, h1, hF => by
  have hL := hT.len
  have hlw := hT.le w
  have hL2 : 2 ^ 2 ^ n ≤ 256 := by
   obtain rfl | rfl | rfl | rfl : n = 0 ∨ n = 1 ∨ n = 2 ∨ n = 3 := by omega
   all_goals decide
  have hmid := hT.mid i (by omega) (by omega)
  have ih := ro o self hs k0 k1 d F (i + 1) (by omega) (by omega) (by omega)
  show CV N self T (n : Int) (w : Int) (cond o 0 1) (i : Int) _ k0 k1 = _
  unfold CV Gz
  rw [cr N n (by omega), agW (by omega : (i : Int) < ((2 ^ 2 ^ n - 1 : Nat) : Int)), agY, ab (agW (by omega)), ab (agW (by omega)), ab (agW (by omega)), ab (agW (by omega)), jU, jU, aw i (by omega)]
  have hp : bH T o w (2 ^ 2 ^ n) (d + 1 + 1) i = cond (decide (1 ≤ gt T i) && decide (gt T i < gt T w)) (match dp T o w i (2 ^ 2 ^ n) 0 with | some b => some (i, b) | none => bH T o w (2 ^ 2 ^ n) (d + 1) (i + 1)) (bH T o w (2 ^ 2 ^ n) (d + 1) (i + 1)) := rfl
  rw [hp, agW hmid, ag8]
  by_cases e1 : gt T i < gt T w
  ·have hz : dp T o w i (2 ^ 2 ^ n) 0 = dp T o w i (2 ^ 2 ^ n - 2 + 1) 1 := by
    rw [show 2 ^ 2 ^ n = 2 ^ 2 ^ n - 2 + 1 + 1 by omega]
    exact DO hT.zero
   rw [ag1 (by omega : ¬ gt T i ≥ gt T w), agX, agW e1, agY, hz]
   have hb := rp N hN hn hT hw (by omega : i < 2 ^ 2 ^ n) g hg hmid e1 o self hs k0 (fun x1 x2 x3 x4 x5 => il N self F x1 x2 x3 x4 (w64 (x5 + 1)) k0 k1) (2 ^ 2 ^ n - 2) N 1 (by omega) (by omega)
   refine aig hb ?_
   cases dp T o w i (2 ^ 2 ^ n - 2 + 1) 1 with
   | some b => rfl
   | none =>
    show il N self F T (n : Int) (w : Int) (cond o 0 1) (w64 ((i : Int) + 1)) k0 k1 = _
    rw [aw i (by omega)]
    exact ih
  ·rw [agW (by omega : gt T i ≥ gt T w), agY, ag1 e1, agX]
   exact ih
theorem Ci (self : List Int → Int → Int → (ByteArray → Option β) → Option β) (hs : ∀ x, x < 2 ^ 2 ^ n → 1 ≤ gt T x → gt T x < gt T w → ∀ K, self T (n : Int) (x : Int) K = K (B (g x))) (hL4 : 2 ≤ 2 ^ 2 ^ n) (k0 : ByteArray → Option β) (k1 : Option β) :
  im N self N T (n : Int) (w : Int) 0 k0 k1 =
   match bH T true w (2 ^ 2 ^ n) (2 ^ 2 ^ n) 0 with
   | some (a, b) => k0 (B (38 :: g a ++ g b))
   | none => match bH T false w (2 ^ 2 ^ n) (2 ^ 2 ^ n) 0 with
    | some (a, b) => k0 (B (124 :: g a ++ g b))
    | none => k1 := by
 obtain ⟨M, rfl⟩ : ∃ M, N = M + 3 := ⟨N - 3, by omega⟩
 have hL2 : 2 ^ 2 ^ n ≤ 256 := by
  obtain rfl | rfl | rfl | rfl : n = 0 ∨ n = 1 ∨ n = 2 ∨ n = 3 := by omega
  all_goals decide
 have hz : ∀ o, bH T o w (2 ^ 2 ^ n) (2 ^ 2 ^ n) 0 = bH T o w (2 ^ 2 ^ n) (2 ^ 2 ^ n - 2 + 1) 1 := fun o => by
  have h := DM (T := T) (o := o) (w := w) (L := 2 ^ 2 ^ n) (d := 2 ^ 2 ^ n - 2 + 1) hT.zero
  rw [show 2 ^ 2 ^ n - 2 + 1 + 1 = 2 ^ 2 ^ n by omega] at h
  exact h
 rw [hz true, hz false]
 have ha := fun o k0 (k1 : List Int → Int → Int → Int → Option β) => ro (M + 3) hN hn hT hw g hg o self hs k0 k1 (2 ^ 2 ^ n - 2) (M + 3) 1 (by omega) (ag7 _) (by omega)
 show CW (M + 3) self T (n : Int) (w : Int) 0 (fun v0 v1 v2 v3 => im (M + 3) self (M + 2) v0 v1 v2 v3 k0 k1) k0 k1 = _
 unfold CW GA
 refine aig (ha true _ _) ?_
 cases bH T true w (2 ^ 2 ^ n) (2 ^ 2 ^ n - 2 + 1) 1 with
 | some p => rfl
 | none =>
  show CW (M + 3) self T (n : Int) (w : Int) 1 (fun v0 v1 v2 v3 => im (M + 3) self (M + 1) v0 v1 v2 v3 k0 k1) k0 k1 = _
  unfold CW GA
  refine aig (ha false _ _) ?_
  cases bH T false w (2 ^ 2 ^ n) (2 ^ 2 ^ n - 2 + 1) 1 with
  | some p => rfl
  | none => rfl
end
theorem Ek : ∀ n, n ≤ 3 → ∀ i, i < n → aQ (fun x => x.testBit i) (2 ^ n) = vw n i := by decide +kernel
theorem FF (i : Nat) (hi : i < 3) : (aq [97, 98, 99, 100, 101]).extract (Int.toNat (i : Int)) (Int.toNat ((i + 1 : Nat) : Int)) = B [UInt8.ofNat (97 + i)] := by
 obtain rfl | rfl | rfl : i = 0 ∨ i = 1 ∨ i = 2 := by omega
 all_goals rfl
theorem Ch (N : Nat) (hN : 1048576 < N) {n : Nat} (hn : n ≤ 3) {T : List Int} (hT : u6 n T) {w : Nat} (hw : w < 2 ^ 2 ^ n) (k0 : ByteArray → Option β) (k1 : List Int → Int → Int → Option β) :
  ∀ (d F i : Nat), i + d = n → d < F → ko N F T (n : Int) (w : Int) (i : Int) k0 k1 = match cond (decide (gt T w = 1)) (qu n w d i) none with
   | some s => k0 (B s)
   | none => k1 T (n : Int) (w : Int)
 | d, 0, _, _, h => absurd h (ahV _)
 | 0, F + 1, i, hi, _ => by
  obtain rfl : i = n := by omega
  show CT N T (i : Int) (w : Int) (i : Int) _ k0 k1 = _
  unfold CT Gx
  rw [ag1 (by omega)]
  cases decide (gt T w = 1) <;> rfl
 | d + 1, F + 1, i, hi, hF => by
  have hL := hT.len
  have ih := Ch N hN hn hT hw k0 k1 d F (i + 1) (by omega) (by omega)
  have hv := Gm n hn i (by omega)
  have hv2 := To n hn i (by omega)
  have hfu : full n = 2 ^ 2 ^ n - 1 := rfl
  have hL2 : 2 ^ 2 ^ n ≤ 256 := by
   obtain rfl | rfl | rfl | rfl : n = 0 ∨ n = 1 ∨ n = 2 ∨ n = 3 := by omega
   all_goals decide
  show CT N T (n : Int) (w : Int) (i : Int) _ k0 k1 = _
  unfold CT Gx
  rw [agW (by omega : (i : Int) < (n : Int)), agY, ab (agW (by omega)), ab (agW (by omega)), jU]
  by_cases e1 : gt T w = 1
  ·rw [show (gt T w == 1) = true by simp [e1], agY, agW e1, agY, l5 N n i (by omega) (by omega), Ek n hn i (by omega), cr N n (by omega), l5 N n i (by omega) (by omega), Ek n hn i (by omega)]
   dsimp only
   have hsub : w64 (((2 ^ 2 ^ n - 1 : Nat) : Int) - ((vw n i : Nat) : Int)) = ((full n - vw n i : Nat) : Int) := by rw [bp (by omega) (by omega)]; omega
   rw [hsub, aw i (by omega)]
   have hl : qu n w (d + 1) i = cond (w == vw n i) (some [UInt8.ofNat (97 + i)]) (cond (w == full n - vw n i) (some [33, UInt8.ofNat (97 + i)]) (qu n w d (i + 1))) := rfl
   rw [hl]
   have hsz : (aq [97, 98, 99, 100, 101]).size = 5 := rfl
   by_cases e2 : w = vw n i
   ·rw [show ((w : Int) == ((vw n i : Nat) : Int)) = true by simp [e2], show (w == vw n i) = true by simp [e2], agY, agY, ab (agW (by omega)), ab (agW (by rw [hsz]; omega)), ab (agW (by omega)), ab (agW (by omega)), FF i (by omega)]
   ·rw [show ((w : Int) == ((vw n i : Nat) : Int)) = false by rw [beq_eq_false_iff_ne]; omega, show (w == vw n i) = false by simp [e2], agX, agX]
    by_cases e3 : w = full n - vw n i
    ·rw [show ((w : Int) == ((full n - vw n i : Nat) : Int)) = true by simp [e3], show (w == full n - vw n i) = true by simp [e3], agY, agY, ab (agW (by omega)), ab (agW (by rw [hsz]; omega)), ab (agW (by omega)), ab (agW (by omega)), FF i (by omega), show aq [33] = B [33] from rfl, gs2 _ _ (by simp), cK]
     rfl
    ·rw [show ((w : Int) == ((full n - vw n i : Nat) : Int)) = false by rw [beq_eq_false_iff_ne]; omega, show (w == full n - vw n i) = false by simp [e3], agX, agX]
     rw [agW e1, agY] at ih
     exact ih
  ·rw [show (gt T w == 1) = false by simp [e1], agX, ag1 e1, agX]
theorem Bu {n w : Nat} {s : List UInt8} : ∀ (d i : Nat), qu n w d i = some s → s.length ≤ 2
 | 0, _, h => by cases h
 | d + 1, i, h => by
  unfold qu at h
  cases h1 : w == vw n i with
  | true => rw [h1, agY, ag0] at h; subst h; simp
  | false =>
   rw [h1, agX] at h
   cases h2 : w == full n - vw n i with
   | true => rw [h2, agY, ag0] at h; subst h; simp
   | false => rw [h2, agX] at h; exact Bu d (i + 1) h
theorem LQ {n : Nat} {T : List Int} (hT : u6 n T) : ∀ (F w : Nat), ((fmF T n F w).length : Int) ≤ if 1 ≤ gt T w then 3 * gt T w - 1 else 1
 | 0, w => by
  show ((0 : Nat) : Int) ≤ _
  split <;> omega
 | F + 1, w => by
  have ih := LQ hT F
  have two : ∀ a b, 1 ≤ gt T a → 1 ≤ gt T b → gt T a + gt T b = gt T w → ∀ c : UInt8, ((c :: fmF T n F a ++ fmF T n F b).length : Int) ≤ if 1 ≤ gt T w then 3 * gt T w - 1 else 1 := fun a b h1 h2 h3 c => by
   have ha := ih a
   have hb := ih b
   rw [if_pos h1] at ha
   rw [if_pos h2] at hb
   rw [if_pos (by omega)]
   simp only [ah3, ag3, ag4]
   omega
  unfold fmF
  cases h0 : w == 0 with
  | true =>
   rw [agY]
   have : w = 0 := by simpa using h0
   subst this
   rw [hT.zero]; simp
  | false =>
   rw [agX]
   cases h1 : w == full n with
   | true =>
    rw [agY]
    have : w = full n := by simpa using h1
    subst this
    rw [show full n = 2 ^ 2 ^ n - 1 from rfl, hT.full]; simp
   | false =>
    rw [agX]
    cases hl : cond (decide (gt T w = 1)) (qu n w n 0) none with
    | some s =>
     dsimp only
     cases h2 : decide (gt T w = 1) with
     | false => rw [h2] at hl; cases hl
     | true =>
      rw [h2, agY] at hl
      have := Bu n 0 hl
      rw [of_decide_eq_true h2]
      simp only [Int.le_refl, if_true]
      omega
    | none =>
     dsimp only
     cases hp : bH T true w (2 ^ 2 ^ n) (2 ^ 2 ^ n) 0 with
     | some p =>
      obtain ⟨a, b⟩ := p
      obtain ⟨p1, _, _, p4, p5, _⟩ := pA _ _ hp
      exact two a b p1 p4 p5 38
     | none =>
      dsimp only
      cases hq : bH T false w (2 ^ 2 ^ n) (2 ^ 2 ^ n) 0 with
      | some p =>
       obtain ⟨a, b⟩ := p
       obtain ⟨p1, _, _, p4, p5, _⟩ := pA _ _ hq
       exact two a b p1 p4 p5 124
      | none =>
       show ((0 : Nat) : Int) ≤ _
       split <;> omega
theorem Fw {n : Nat} {T : List Int} (hT : u6 n T) (F w : Nat) : (fmF T n F w).length ≤ 1000 := by
 have h := LQ hT F w
 have hl := hT.le w
 split at h <;> omega
theorem um {N : Nat} (hN : 1048576 < N) {n : Nat} (hn : n ≤ 3) {T : List Int} (hT : u6 n T) : ∀ (F w : Nat), w < 2 ^ 2 ^ n → gt T w < F → ∀ K : ByteArray → Option β, dr N F T (n : Int) (w : Int) K = K (B (fmF T n F w))
 | 0, w, _, h, _ => by have := hT.le w; omega
 | F + 1, w, hw, hF, K => by
  have hs : ∀ x, x < 2 ^ 2 ^ n → 1 ≤ gt T x → gt T x < gt T w → ∀ K : ByteArray → Option β, dr N F T (n : Int) (x : Int) K = K (B (fmF T n F x)) := fun x hx _ h2 K => um hN hn hT F x hx (by omega) K
  have hL2 : 2 ≤ 2 ^ 2 ^ n := by
   obtain rfl | rfl | rfl | rfl : n = 0 ∨ n = 1 ∨ n = 2 ∨ n = 3 := by omega
   all_goals decide
  show Po N (dr N F) T (n : Int) (w : Int) K = _
  unfold Po Oz fmF
  cases h0 : w == 0 with
  | true =>
   have : w = 0 := by simpa using h0
   subst this
   rfl
  | false =>
   have h0' : w ≠ 0 := by simpa using h0
   rw [show ((w : Int) == 0) = false by rw [beq_eq_false_iff_ne]; omega, agX, agX, cr N n (by omega)]
   cases h1 : w == full n with
   | true =>
    have : w = full n := by simpa using h1
    subst this
    rw [show ((full n : Nat) : Int) = ((2 ^ 2 ^ n - 1 : Nat) : Int) from rfl, beq_self_eq_true]
    rfl
   | false =>
    have h1' : w ≠ 2 ^ 2 ^ n - 1 := by
     have : w ≠ full n := by simpa using h1
     exact this
    rw [show ((w : Int) == ((2 ^ 2 ^ n - 1 : Nat) : Int)) = false by rw [beq_eq_false_iff_ne]; omega, agX, agX]
    refine aig (Ch N hN hn hT hw _ _ n N 0 (by omega) (by omega)) ?_
    cases cond (decide (gt T w = 1)) (qu n w n 0) none with
    | some s => rfl
    | none =>
     dsimp only
     refine aig (Ci N hN hn hT hw (fmF T n F) (Fw hT F) _ hs hL2 _ _) ?_
     cases bH T true w (2 ^ 2 ^ n) (2 ^ 2 ^ n) 0 with
     | some p => rfl
     | none =>
      cases bH T false w (2 ^ 2 ^ n) (2 ^ 2 ^ n) 0 with
      | some p => rfl
      | none => rfl
end Go.Proofs.YtmhlcbibbhelkaaGreatDoor
namespace Go.Proofs.YtmhlcbibbhelkaaGreatDoor
open Go.Rv
set_option linter.unusedSimpArgs false
set_option linter.unusedSectionVars false
variable {β : Type}
theorem abP (X : Option β) : gd true X = X := rfl
section
variable (N : Nat) (hN : 1048576 < N) {n : Nat} (hn : n ≤ 3) {T : List Int} (hT : u6 n T) {w a : Nat} (hw : w < 2 ^ 2 ^ n) (ha : a < 2 ^ 2 ^ n) (g : Nat → List UInt8)
 (hg : ∀ x, (g x).length ≤ 1000) (ha1 : 1 ≤ gt T a) (ha2 : gt T a < gt T w)
include hN hn hT hw ha hg ha1 ha2
theorem q7 (o : Bool) (self : Int → Int → List Int → (ByteArray → Option β) → Option β) (hs : ∀ x, x < 2 ^ 2 ^ n → 1 ≤ gt T x → gt T x < gt T w → ∀ K, self (n : Int) (x : Int) T K = K (B (g x))) (x4 x5 : Int) (x6 : List Int) (x7 x8 : Int) (x14 : List Int) (k0 : ByteArray → Option β) (k1 : List Int → Int → Int → Int → List Int → Int → Int → Int → Int → List Int → Option β) :
  ∀ (d F i : Nat), i + d = 2 ^ 2 ^ n → d < F → kx N self F T (cond o 38 124) (a : Int) (gt T a) x4 x5 x6 x7 x8 T (T.length : Int) (i : Int) (n : Int) (w : Int) x14 k0 k1 =
   match dp T o w a d i with
   | some b => k0 (B (cond o 38 124 :: g a ++ g b))
   | none => k1 T (cond o 38 124) x4 x5 x6 x7 x8 (n : Int) (w : Int) x14
 | d, 0, _, _, h => absurd h (ahV _)
 | 0, F + 1, i, hi, _ => by
  have hL := hT.len
  obtain rfl : i = 2 ^ 2 ^ n := by omega
  show C2 N self T (cond o 38 124) (a : Int) (gt T a) x4 x5 x6 x7 x8 T (T.length : Int) _ (n : Int) (w : Int) x14 _ k0 k1 = _
  unfold C2 G4
  rw [ag1 (by omega)]
  rfl
 | d + 1, F + 1, i, hi, hF => by
  have hL := hT.len
  have ih := q7 o self hs x4 x5 x6 x7 x8 x14 k0 k1 d F (i + 1) (by omega) (by omega)
  have hla := hT.le a
  have hlb := hT.le i
  have hlw := hT.le w
  have hL2 : 2 ^ 2 ^ n ≤ 256 := by
   obtain rfl | rfl | rfl | rfl : n = 0 ∨ n = 1 ∨ n = 2 ∨ n = 3 := by omega
   all_goals decide
  show C2 N self T (cond o 38 124) (a : Int) (gt T a) x4 x5 x6 x7 x8 T (T.length : Int) (i : Int) (n : Int) (w : Int) x14 _ k0 k1 = _
  unfold C2 G4
  rw [agW (by omega : (i : Int) < (T.length : Int)), agY, ab (agW (by omega)), jU, jU, aw i (by omega), bp (by omega) (by omega), bAnd a i (by omega) (by omega), bOr a i (by omega) (by omega)]
  dsimp only
  have hp : dp T o w a (d + 1) i = cond (decide (1 ≤ gt T i) && decide (gt T a + gt T i = gt T w) && (cond o (a &&& i) (a ||| i) == w)) (some i) (dp T o w a d (i + 1)) := rfl
  rw [hp]
  have g0 : ∀ X : Option β, gd (decide ((0 : Int) ≤ (w : Int))) X = X := fun X => ab (agW (by omega))
  have g1 : ∀ X : Option β, gd (decide ((w : Int) < (T.length : Int))) X = X := fun X => ab (agW (by omega))
  simp only [g0, g1, abP]
  have ga := hg a
  have gi := hg i
  cases o with
  | true =>
   simp only [agY] at ih ⊢
   rw [show ((38 : Int) == 124) = false from rfl, agX]
   by_cases e0 : 1 ≤ gt T i
   ·rw [agW e0, ag8, agY]
    by_cases e1 : gt T a + gt T i = gt T w
    ·have hilt : gt T i < gt T w := by omega
     rw [show (gt T a + gt T i == gt T w) = true by simp [e1], agY, agW e1, ag8]
     by_cases e2 : a &&& i = w
     ·rw [show (((a &&& i : Nat) : Int) == (w : Int)) = true by simp [e2], show (a &&& i == w) = true by simp [e2], agY, agY, hs a ha ha1 ha2, hs i (by omega) e0 hilt]
      show gd (decide ((B [38]).size + (B (g a)).size ≤ 9223372036854775807)) (gd (decide ((B [38] ++ B (g a)).size + (B (g i)).size ≤ 9223372036854775807)) (k0 (B [38] ++ B (g a) ++ B (g i)))) = _
      rw [gs2 _ _ (by simp only [ag3, ahh]; omega), cK, gs2 _ _ (by simp only [ag4, ag3, ahh]; omega), cK]
      rfl
     ·rw [show (((a &&& i : Nat) : Int) == (w : Int)) = false by rw [beq_eq_false_iff_ne]; omega, show (a &&& i == w) = false by simp [e2], agX, agX]
      exact ih
    ·rw [show (gt T a + gt T i == gt T w) = false by rw [beq_eq_false_iff_ne]; exact e1, agX, ag1 e1, ahu, agX]
     exact ih
   ·rw [ag1 e0, ahu, ahu, agX, agX]
    exact ih
  | false =>
   simp only [agX] at ih ⊢
   rw [show ((124 : Int) == 124) = true from rfl, agY]
   by_cases e0 : 1 ≤ gt T i
   ·rw [agW e0, ag8, agY]
    by_cases e1 : gt T a + gt T i = gt T w
    ·have hilt : gt T i < gt T w := by omega
     rw [show (gt T a + gt T i == gt T w) = true by simp [e1], agY, agW e1, ag8]
     by_cases e2 : a ||| i = w
     ·rw [show (((a ||| i : Nat) : Int) == (w : Int)) = true by simp [e2], show (a ||| i == w) = true by simp [e2], agY, agY, hs a ha ha1 ha2, hs i (by omega) e0 hilt]
      show gd (decide ((B [124]).size + (B (g a)).size ≤ 9223372036854775807)) (gd (decide ((B [124] ++ B (g a)).size + (B (g i)).size ≤ 9223372036854775807)) (k0 (B [124] ++ B (g a) ++ B (g i)))) = _
      rw [gs2 _ _ (by simp only [ag3, ahh]; omega), cK, gs2 _ _ (by simp only [ag4, ag3, ahh]; omega), cK]
      rfl
     ·rw [show (((a ||| i : Nat) : Int) == (w : Int)) = false by rw [beq_eq_false_iff_ne]; omega, show (a ||| i == w) = false by simp [e2], agX, agX]
      exact ih
    ·rw [show (gt T a + gt T i == gt T w) = false by rw [beq_eq_false_iff_ne]; exact e1, agX, ag1 e1, ahu, agX]
     exact ih
   ·rw [ag1 e0, ahu, ahu, agX, agX]
    exact ih
end
end Go.Proofs.YtmhlcbibbhelkaaGreatDoor
